/-
  Contract of field.Told.
-/
import Derived.Test.YtpckomnpeainlabFind
import Derived.Test.YtpckomnpeainlabVal
namespace Go.Proofs.Ytpckomnpeainlab
open Go.RowKit
set_option linter.unusedVariables false

theorem c_kn (k n : Int) (s : ByteArray) (h : Vw) (hk : KnownV k n s) : C0 Try.prog 57 #[.agg #[.int .i64 k, .int .i64 n, .string s]] h (fun v _ => v = .bool true) := C0.of_gives (fun w => known_true k n s w hk) h
/-- Whether a field may be told a value of type k. -/
def toldE (fs : List Fd) (s : ByteArray) (k : Int) : Int := if findF fs s < 0 then 5 else match fs[(findF fs s).toNat]? with
  | some f => if f.kind = 1 then (if k = f.ty then 0 else 9) else 2
  | none => 5

set_option maxRecDepth 100000 in
theorem told_any (fs : List Fd) (v : Value) (s : ByteArray) (k n : Int) (t : ByteArray) (h : Vw) (hf : IsFds h v fs) (hl : fs.length ≤ 1000000) (hk : KnownV k n t) : C0 Try.prog 37 #[v, .string s, .agg #[.int .i64 k, .int .i64 n, .string t]] h (fun r _ => r = .int .i64 (toldE fs s k)) := by
  have hkn := c_kn k n t
  obtain ⟨vs, A, cap, rfl, -, -, hr, hsrc, hvl, hsl⟩ := fds_open hf
  rcases findF_lt fs s with hp | ⟨i, f, hp, hfi, -⟩
  · have hno := fun H q => find_no fs (.slice A fs.length cap) s H q hl (by omega)
    have e : toldE fs s k = 5 := by unfold toldE; rw [if_pos (by omega)]
    rw [e]
    refine x_con Try.func37 (c := Try.f37.body.getD .skip) (by kernel_rfl) (N := 40) rfl (by kernel_rfl) ?_
    intro hbx hbad Q hQ a w hJ
    replace hJ : K ⟨40, h.w, h.bad, []⟩ [(0, .slice A fs.length cap), (1, .string s), (2, .agg #[.int .i64 k, .int .i64 n, .string t])] [] [] h a w := hJ.to (by kernel_rfl) (by kernel_rfl) rfl
    refine rx hJ false 37 [.own, .cl 63 #[.slice A fs.length cap, .string s] (.tuple #[.int .i64 0, .int .i64 5])] [] (.new fun b1 => .ok (.out .ret) [] [(6, .int .i64 5)] [.box b1 [.int .i64 k, .int .i64 n, .string t]] []) (And.intro (fun H sH => hno _ (hf.sees sH)) (trivial)) trivial (fun b1 _ => by kernel_rfl) ?_
    clear hJ a w; intro b1 a w hJ
    refine x_end (hQ [.int .i64 5] _ [] hJ (.rtmp hJ.j (by kernel_rfl) .nil) (no_own _) rfl ?_).1
    exact rfl
  · have hyes := fun H q => find_yes fs (.slice A fs.length cap) s i H q hl hp
    have hil := (List.getElem?_eq_some_iff.1 hfi).1
    obtain ⟨u, hui⟩ : ∃ u, vs[i]? = some u := ⟨_, List.getElem?_eq_getElem (by omega)⟩
    have hrow : (fdRows fs vs)[i]? = some (fdRow f (.slice (sA u) (sN u) (sC u))) := by rw [hsl u (List.mem_of_getElem? hui)]; exact fdRows_get hfi hui
    have e : toldE fs s k = if f.kind = 1 then (if k = f.ty then 0 else 9) else 2 := by unfold toldE; rw [if_neg (by omega), hp, Int.toNat_natCast, hfi]
    rw [e]
    refine x_con Try.func37 (c := Try.f37.body.getD .skip) (by kernel_rfl) (N := 40) rfl (by kernel_rfl) ?_
    intro hbx hbad Q hQ a w hJ
    replace hJ : K ⟨40, h.w, h.bad, []⟩ [(0, .slice A fs.length cap), (1, .string s), (2, .agg #[.int .i64 k, .int .i64 n, .string t])] [] [] h a w := hJ.to (by kernel_rfl) (by kernel_rfl) rfl
    refine rx hJ false 32 [.own, .cl 63 #[.slice A fs.length cap, .string s] (.tuple #[.int .i64 (i : Int), .int .i64 0])] [] (.new fun b1 => .ok (.ops [0, 1, 1, 0, 0, 1, 1] 2) [.seq [1, 1, 1, 0, 0, 1, 1], .block 0, .seq [1, 1, 1]] [(0, .slice A fs.length cap), (5, .pointer (some ⟨b1, 0, none⟩)), (6, .int .i64 0), (7, .int .i64 (i : Int)), (20, .slice A fs.length cap), (21, .int .i64 (i : Int))] [.box b1 [.int .i64 k, .int .i64 n, .string t]] []) (And.intro (fun H sH => hyes _ (hf.sees sH)) (trivial)) trivial (fun b1 _ => by kernel_rfl) ?_
    clear hJ a w; intro b1 a w hJ
    obtain ⟨b2, o3, rfl, -, c4⟩ := RS.row hr (hrow)
    replace hJ := hJ.fact (c4.sees (Sees.refl _))
    refine rx hJ false 7 [.ix b2 o3 fs.length cap i, .f 0 1] [] (.ok (.code [1, 1, 1, 0, 0, 1, 1]) [.block 0, .seq [1, 1, 1]] [(0, .slice (some ⟨b2, o3, none⟩) fs.length cap), (5, .pointer (some ⟨b1, 0, none⟩)), (6, .int .i64 0), (7, .int .i64 (i : Int)), (19, .bool (f.kind != 1))] [.box b1 [.int .i64 k, .int .i64 n, .string t]] [(b2, o3 + i * 9, [.string f.name, .int .i64 f.kind, .int .i64 f.ty, .int .i64 f.src.op, .int .i64 f.src.k, .int .i64 f.src.n, .string f.src.s, .string f.src.nm, .slice (sA u) (sN u) (sC u)])]) (And.intro (by first | omega | (simp; omega)) (trivial)) trivial (fun _ => by kernel_rfl) ?_
    clear hJ a w; intro a w hJ
    by_cases h1 : f.kind = 1
    · skip
      refine x_false hJ (t := f.kind != 1) (by kernel_rfl) ((by rw [bne_eq_false_iff_eq]; exact h1)) ?_
      refine rx hJ false 1 [] [] (.ok (.code [0, 1, 1, 1, 1, 0, 0, 1, 1]) [.seq [1, 1, 1, 1, 1, 0, 0, 1, 1], .block 0, .seq [1, 1, 1]] [(0, .slice (some ⟨b2, o3, none⟩) fs.length cap), (5, .pointer (some ⟨b1, 0, none⟩)), (6, .int .i64 0), (7, .int .i64 (i : Int))] [.box b1 [.int .i64 k, .int .i64 n, .string t]] [(b2, o3 + i * 9, [.string f.name, .int .i64 f.kind, .int .i64 f.ty, .int .i64 f.src.op, .int .i64 f.src.k, .int .i64 f.src.n, .string f.src.s, .string f.src.nm, .slice (sA u) (sN u) (sC u)])]) trivial trivial (fun _ => by kernel_rfl) ?_
      clear hJ a w; intro a w hJ
      have c5 := RS.cell hr (hrow)
      replace hJ := hJ.fact (c5.sees (Sees.refl _))
      let R : Reg := ⟨⟨40, h.w, h.bad, []⟩, [(0, 27, fun gh => .agg #[.int .i64 k, .int .i64 n, .string t]), (1, 28, fun gh => .bool true), (2, 29, fun gh => .bool false), (3, 30, fun gh => .bool false), (4, 31, fun gh => .pointer (some ⟨b1, 0, none⟩)), (5, 32, fun gh => .int .i64 k), (6, 33, fun gh => .slice (some ⟨b2, o3, none⟩) fs.length cap), (7, 34, fun gh => .int .i64 (i : Int)), (8, 35, fun gh => .pointer (some ⟨b2, o3 + i * 9, none⟩)), (9, 36, fun gh => .pointer (some ⟨b2, o3 + i * 9 + 2, none⟩)), (10, 37, fun gh => .int .i64 f.ty), (11, 38, fun gh => .bool (k != f.ty)), (12, 39, fun gh => .bool (k != f.ty)), (13, 26, fun gh => .bool (k != f.ty))], [(0, .slice (some ⟨b2, o3, none⟩) fs.length cap), (5, .pointer (some ⟨b1, 0, none⟩)), (6, .int .i64 0), (7, .int .i64 (i : Int))], [⟨some (.box b1 [.int .i64 k, .int .i64 n, .string t]), []⟩], [], [[], [0], [0, 1], [0, 1, 2], [0, 1, 2, 3], [0, 1, 2, 3, 4], [0, 1, 2, 3], [0, 1, 2, 3], [0, 1, 2, 3, 6, 7], [0, 1, 2, 3, 6, 7, 8], [0, 1, 2, 3, 6, 7, 8, 9], [0, 1, 2, 3, 4, 5, 6, 7, 8, 9, 10], [0, 1, 2, 3, 4, 5, 6, 7, 8, 9, 10, 11], [0, 1, 2, 3, 4, 5, 6, 7, 8, 9, 10, 11, 12]], h⟩
      have hmono : ∀ zq ∈ R.F, ∀ zx zh zi, Sees zh zi → zq.2 zx zh → zq.2 zx zi := mono_nil
      refine x_region (by kernel_rfl) R hJ 14 [.ld 0 0, .cl, .pu, .pu, .pu, .ld 0 0, .pu, .pu, .cl, .pu, .lf 0 2, .pu, .pu, .pu] (by kernel_rfl) hmono (fun _ _ _ => by kernel_rfl) (fun hT hA => ?_) ?_
      · clear hJ
        refine And.intro (r_callv hT hA hmono 28 (fun gh => .bool true) [0] 1 (by kernel_rfl) (by kernel_rfl) (by kernel_rfl) (fun _ => by kernel_rfl) 57 (fun gh => #[.agg #[.int .i64 k, .int .i64 n, .string t]]) (fun _ _ => by kernel_rfl) (fun gh H sH fH lent => hkn _ hk)) ?_
        refine And.intro (r_pure hT hA 35 (fun gh => .pointer (some ⟨b2, o3 + i * 9, none⟩)) [3, 6, 7] 8 (by kernel_rfl) (by kernel_rfl) (by kernel_rfl) (fun _ => by kernel_rfl) (fun gh w => run_indexAddr (t := 63) (x := (.tmp 33)) (y := (.tmp 34)) (b := b2) (off := o3) (n := fs.length) (cap := cap) (k := i) (e := 72) (kk := 9) (by kernel_rfl) (by kernel_rfl) (by kernel_rfl) (by first | omega | (simp; omega)) Try.underlying63 (by kernel_rfl))) ?_
        trivial
      clear hJ a w; intro gh h6 a w sR hJ1 hF; have s7 : Sees h h6 := sR; clear sR
      have hJ : K ⟨40, h.w, h.bad, []⟩ [(6, .int .i64 0), (26, .bool (k != f.ty))] [.box b1 [.int .i64 k, .int .i64 n, .string t]] [(b2, o3 + i * 9, [.string f.name, .int .i64 f.kind, .int .i64 f.ty, .int .i64 f.src.op, .int .i64 f.src.k, .int .i64 f.src.n, .string f.src.s, .string f.src.nm, .slice (sA u) (sN u) (sC u)]), (b2, o3 + i * 9, [.string f.name, .int .i64 f.kind, .int .i64 f.ty, .int .i64 f.src.op, .int .i64 f.src.k, .int .i64 f.src.n, .string f.src.s, .string f.src.nm, .slice (sA u) (sN u) (sC u)])] h6 a w := hJ1.to (by kernel_rfl) (by kernel_rfl) rfl
      clear hJ1 hF hmono R
      clear gh
      refine rx hJ false 1 [] [] (.ok (.code [1, 1, 1, 1, 1, 0, 0, 1, 1]) [.block 0, .seq [1, 1, 1]] [(6, .int .i64 0), (26, .bool (k != f.ty))] [.box b1 [.int .i64 k, .int .i64 n, .string t]] [(b2, o3 + i * 9, [.string f.name, .int .i64 f.kind, .int .i64 f.ty, .int .i64 f.src.op, .int .i64 f.src.k, .int .i64 f.src.n, .string f.src.s, .string f.src.nm, .slice (sA u) (sN u) (sC u)]), (b2, o3 + i * 9, [.string f.name, .int .i64 f.kind, .int .i64 f.ty, .int .i64 f.src.op, .int .i64 f.src.k, .int .i64 f.src.n, .string f.src.s, .string f.src.nm, .slice (sA u) (sN u) (sC u)])]) trivial trivial (fun _ => by kernel_rfl) ?_
      clear hJ a w; intro a w hJ
      by_cases h2 : k = f.ty
      · refine x_false hJ (t := k != f.ty) (by kernel_rfl) ((by rw [bne_eq_false_iff_eq]; exact h2)) ?_
        refine rx hJ false 9 [] [] (.ok (.out .ret) [] [(6, .int .i64 0)] [.box b1 [.int .i64 k, .int .i64 n, .string t]] [(b2, o3 + i * 9, [.string f.name, .int .i64 f.kind, .int .i64 f.ty, .int .i64 f.src.op, .int .i64 f.src.k, .int .i64 f.src.n, .string f.src.s, .string f.src.nm, .slice (sA u) (sN u) (sC u)]), (b2, o3 + i * 9, [.string f.name, .int .i64 f.kind, .int .i64 f.ty, .int .i64 f.src.op, .int .i64 f.src.k, .int .i64 f.src.n, .string f.src.s, .string f.src.nm, .slice (sA u) (sN u) (sC u)])]) trivial trivial (fun _ => by kernel_rfl) ?_
        clear hJ a w; intro a w hJ
        refine x_end (hQ [.int .i64 0] _ [] hJ (.rtmp hJ.j (by kernel_rfl) .nil) (no_own _) rfl ?_).1
        rw [if_pos h1, if_pos h2]; rfl
      · skip
        refine x_true hJ (t := k != f.ty) (by kernel_rfl) (bne_iff_ne.2 h2) ?_
        refine rx hJ false 8 [] [] (.ok (.out .ret) [] [(6, .int .i64 9)] [.box b1 [.int .i64 k, .int .i64 n, .string t]] [(b2, o3 + i * 9, [.string f.name, .int .i64 f.kind, .int .i64 f.ty, .int .i64 f.src.op, .int .i64 f.src.k, .int .i64 f.src.n, .string f.src.s, .string f.src.nm, .slice (sA u) (sN u) (sC u)]), (b2, o3 + i * 9, [.string f.name, .int .i64 f.kind, .int .i64 f.ty, .int .i64 f.src.op, .int .i64 f.src.k, .int .i64 f.src.n, .string f.src.s, .string f.src.nm, .slice (sA u) (sN u) (sC u)])]) trivial trivial (fun _ => by kernel_rfl) ?_
        clear hJ a w; intro a w hJ
        refine x_end (hQ [.int .i64 9] _ [] hJ (.rtmp hJ.j (by kernel_rfl) .nil) (no_own _) rfl ?_).1
        rw [if_pos h1, if_neg h2]; rfl
    · skip
      refine x_true hJ (t := f.kind != 1) (by kernel_rfl) (bne_iff_ne.2 h1) ?_
      refine rx hJ false 8 [] [] (.ok (.out .ret) [] [(6, .int .i64 2)] [.box b1 [.int .i64 k, .int .i64 n, .string t]] [(b2, o3 + i * 9, [.string f.name, .int .i64 f.kind, .int .i64 f.ty, .int .i64 f.src.op, .int .i64 f.src.k, .int .i64 f.src.n, .string f.src.s, .string f.src.nm, .slice (sA u) (sN u) (sC u)])]) trivial trivial (fun _ => by kernel_rfl) ?_
      clear hJ a w; intro a w hJ
      refine x_end (hQ [.int .i64 2] _ [] hJ (.rtmp hJ.j (by kernel_rfl) .nil) (no_own _) rfl ?_).1
      rw [if_neg h1]; rfl

end Go.Proofs.Ytpckomnpeainlab

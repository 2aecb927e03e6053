/-
  For all raw things and kinds FieldAsks returns true: exactly the inputs can be set, and only to values of their types. No condition.
-/
import Derived.Test.YtpckomnpeainlabFormQ
import Derived.Test.YtpckomnpeainlabTold
import Derived.Test.YtpckomnpeainlabLawX
namespace Go.Proofs.Ytpckomnpeainlab
open Go.RowKit
set_option linter.unusedVariables false

set_option maxHeartbeats 4000000 in
set_option maxRecDepth 100000 in
theorem fieldAsks_c (l : List RawD) (sl : Value) (r : RawD) (kd : Int) (h : Vw) (hl : RS h 4 sl (l.map RawD.cs)) (ll : l.length * 40 ≤ reachBytes) (ol : ∀ r ∈ l, r.ok) (ro : r.ok) (k0 : -9223372036854775808 ≤ kd) (k1 : kd ≤ 9223372036854775807) :
    C0 Try.prog 11 #[sl, .agg #[.int .i64 r.k, .int .i64 r.a, .int .i64 r.b, .string r.t], .int .i64 kd] h (fun v _ => v = .bool true) := by
  have hF := form_c l sl
  have hU := form_u l sl
  have hlen := form_len l
  have hnl := nFields_le l
  have hnd := form_nodup l
  have hp := pick_range kd 3 (by omega)
  have hV := c_value (1 + pickL kd 3) r
  have hkn := val_known (1 + pickL kd 3) r.k r.a r.t (by omega) (by omega)
  have hpk := c_picked kd 3
  generalize formE l = fm at *
  generalize pickL kd 3 = q at *
  generalize valN (1 + q) r.k r.a = vn at *
  generalize valS (1 + q) r.t = vt at *
  obtain ⟨A0, c0, rfl, -, -, -⟩ := hl.form
  rw [List.length_map] at *
  refine x_con Try.func11 (c := Try.f11.body.getD .skip) (by kernel_rfl) (N := 57) rfl (by kernel_rfl) ?_
  intro hbx hbad Q hQ a w hJ
  replace hJ : K ⟨57, h.w, h.bad, []⟩ [(0, .slice A0 l.length c0), (1, .agg #[.int .i64 r.k, .int .i64 r.a, .int .i64 r.b, .string r.t]), (2, .int .i64 kd)] [] [] h a w := hJ.to (by kernel_rfl) (by kernel_rfl) rfl
  refine rx hJ false 7 [.own] [] (.new fun b1 => .ok (.code [0, 1]) [.seq [1, 1]] [(0, .slice A0 l.length c0), (2, .int .i64 kd), (4, .pointer (some ⟨b1, 0, none⟩)), (6, .bool false)] [.box b1 [.int .i64 r.k, .int .i64 r.a, .int .i64 r.b, .string r.t]] []) trivial trivial (fun b1 _ => by kernel_rfl) ?_
  clear hJ a w; intro b1 a w hJ
  let R : Reg := ⟨⟨57, h.w, h.bad, []⟩, [(0, 11, fun gh => .int .i64 kd), (1, 12, fun gh => .int .i64 q), (2, 13, fun gh => .int .i64 (1 + q)), (3, 14, fun gh => .agg #[.int .i64 r.k, .int .i64 r.a, .int .i64 r.b, .string r.t]), (4, 15, fun gh => .agg #[.int .i64 (1 + q), .int .i64 vn, .string vt]), (5, 7, fun gh => .pointer (some ⟨(blkOf (gh 5)), 0, none⟩))], [(0, .slice A0 l.length c0), (2, .int .i64 kd), (4, .pointer (some ⟨b1, 0, none⟩)), (6, .bool false)], [⟨none, [(5, fun gh => .box (blkOf (gh 5)) [.int .i64 0, .int .i64 0, .string ⟨#[]⟩]), (6, fun gh => .box (blkOf (gh 5)) [.int .i64 (1 + q), .int .i64 vn, .string vt])]⟩, ⟨some (.box b1 [.int .i64 r.k, .int .i64 r.a, .int .i64 r.b, .string r.t]), []⟩], [], [[], [0], [0, 1], [], [0, 1, 2, 3], [], [0, 1, 2, 3, 4, 5]], h⟩
  have hmono : ∀ zq ∈ R.F, ∀ zx zh zi, Sees zh zi → zq.2 zx zh → zq.2 zx zi := mono_nil
  refine x_region (by kernel_rfl) R hJ 7 [.pu, .cl, .cl, .ld 1 0, .cl, .al 0, .st 0 0] (by kernel_rfl) hmono (fun _ _ _ => by kernel_rfl) (fun hT hA => ?_) ?_
  · clear hJ
    refine And.intro (r_callv hT hA hmono 12 (fun gh => .int .i64 q) [0] 1 (by kernel_rfl) (by kernel_rfl) (by kernel_rfl) (fun _ => by kernel_rfl) 18 (fun gh => #[.int .i64 kd, .int .i64 3]) (fun _ _ => by kernel_rfl) (fun gh H sH fH lent => hpk _ k0 k1 (by omega) (by omega))) ?_
    refine And.intro (r_pure hT hA 13 (fun gh => .int .i64 (1 + q)) [1] 2 (by kernel_rfl) (by kernel_rfl) (by kernel_rfl) (fun _ => by kernel_rfl) (fun gh w => run_eq (by kernel_rfl) (i64_wrap (by omega) (by omega)))) ?_
    refine And.intro (r_callv hT hA hmono 15 (fun gh => .agg #[.int .i64 (1 + q), .int .i64 vn, .string vt]) [1, 2, 3] 4 (by kernel_rfl) (by kernel_rfl) (by kernel_rfl) (fun _ => by kernel_rfl) 32 (fun gh => #[.int .i64 (1 + q), .agg #[.int .i64 r.k, .int .i64 r.a, .int .i64 r.b, .string r.t]]) (fun _ _ => by kernel_rfl) (fun gh H sH fH lent => hV _ (by omega) (by omega) ro)) ?_
    trivial
  clear hJ a w; intro gh h3 a w sR hJ1 hF; have s4 : Sees h h3 := sR; clear sR
  have hJ : K ⟨57, h.w, h.bad, []⟩ [(0, .slice A0 l.length c0), (6, .bool false), (7, .pointer (some ⟨(blkOf (gh 5)), 0, none⟩))] [.box (blkOf (gh 5)) [.int .i64 (1 + q), .int .i64 vn, .string vt], .box b1 [.int .i64 r.k, .int .i64 r.a, .int .i64 r.b, .string r.t]] [] h3 a w := hJ1.to (by kernel_rfl) (by kernel_rfl) rfl
  clear hJ1 hF hmono R
  generalize blkOf (gh 5) = b2 at *
  clear gh
  refine rx hJ false 5 [] [] (.ok (.ops [0, 0, 1, 1] 1) [.seq [1, 0, 1, 1], .seq [1, 1, 1]] [(0, .slice A0 l.length c0), (6, .bool false), (7, .pointer (some ⟨b2, 0, none⟩)), (16, .slice A0 l.length c0)] [.box b2 [.int .i64 (1 + q), .int .i64 vn, .string vt], .box b1 [.int .i64 r.k, .int .i64 r.a, .int .i64 r.b, .string r.t]] []) trivial trivial (fun _ => by kernel_rfl) ?_
  clear hJ a w; intro a w hJ
  refine x_call hJ 17 (hF _ (hl.sees (s4.trans hJ.j.sees)) ll ol) (fun _ => by kernel_rfl) ?_; clear hJ a w; rintro _ h5 a w s6 ⟨A, c, B, d, rfl, hfm⟩ hJ
  refine rx hJ false 6 [] [] (.ok (.code [0, 1, 0, 1, 1]) [.block 0, .seq [1, 1, 1]] [(0, .slice A0 l.length c0), (6, .bool false), (7, .pointer (some ⟨b2, 0, none⟩)), (18, .slice A fm.fields.length c), (19, .int .i64 (fm.fields.length : Int)), (20, .int .i64 0)] [.box b2 [.int .i64 (1 + q), .int .i64 vn, .string vt], .box b1 [.int .i64 r.k, .int .i64 r.a, .int .i64 r.b, .string r.t]] []) trivial trivial (fun _ => by kernel_rfl) ?_
  clear hJ a w; intro a w hJ
  obtain ⟨vs, A', c', e, -, -, hr, -, hvl, hsl⟩ := fds_open hfm.fields
  simp only [Value.slice.injEq] at e
  obtain ⟨rfl, -, rfl⟩ := e
  refine x_loop (fun (k : Nat) a w => ∃ (h7 : Vw) , K ⟨57, h.w, h.bad, []⟩ [(0, .slice A0 l.length c0), (7, .pointer (some ⟨b2, 0, none⟩)), (18, .slice A fm.fields.length c), (19, .int .i64 (fm.fields.length : Int)), (20, .int .i64 (k : Int))] [.box b2 [.int .i64 (1 + q), .int .i64 vn, .string vt], .box b1 [.int .i64 r.k, .int .i64 r.a, .int .i64 r.b, .string r.t]] [] h7 a w ∧ Sees h5 h7 ∧ (k ≤ fm.fields.length)) (fun k => fm.fields.length - k) (0) (by kernel_rfl) ⟨h5, hJ.to (by kernel_rfl) (by kernel_rfl) rfl, Sees.refl _, Nat.zero_le _⟩ ?_
  clear hJ a w; rintro k a w ⟨h7, hJ, s8, hk⟩
  refine rx hJ false 6 [] [] (.ok (.code [0, 1, 0, 0, 1, 0, 1, 1]) [.seq [1, 1, 0, 0, 1, 0, 1, 1]] [(0, .slice A0 l.length c0), (7, .pointer (some ⟨b2, 0, none⟩)), (18, .slice A fm.fields.length c), (19, .int .i64 (fm.fields.length : Int)), (20, .int .i64 (k : Int)), (21, .bool (decide ((k : Int) < (fm.fields.length : Int))))] [.box b2 [.int .i64 (1 + q), .int .i64 vn, .string vt], .box b1 [.int .i64 r.k, .int .i64 r.a, .int .i64 r.b, .string r.t]] []) trivial trivial (fun _ => by kernel_rfl) ?_
  clear hJ a w; intro a w hJ
  rcases (by omega : k < fm.fields.length ∨ k = fm.fields.length) with hlt | hke
  · obtain ⟨f, hfk⟩ : ∃ f, fm.fields[k]? = some f := ⟨_, List.getElem?_eq_getElem (by omega)⟩
    obtain ⟨u, huk⟩ : ∃ u, vs[k]? = some u := ⟨_, List.getElem?_eq_getElem (by omega)⟩
    have hrow : (fdRows fm.fields vs)[k]? = some (fdRow f (.slice (sA u) (sN u) (sC u))) := by rw [hsl u (List.mem_of_getElem? huk)]; exact fdRows_get hfk huk
    have hto : toldE fm.fields f.name (1 + q) = if f.kind = 1 then (if 1 + q = f.ty then 0 else 9) else 2 := by unfold toldE; rw [findF_at hnd hfk, if_neg (by omega), Int.toNat_natCast, hfk]
    have hTo := fun H v g => told_any fm.fields v f.name (1 + q) vn vt H g (by omega) hkn
    rw [hto] at hTo
    obtain ⟨z, hz⟩ : ∃ z, z = (if f.kind = 1 then (if 1 + q = f.ty then 0 else 9) else (2 : Int)) := ⟨_, rfl⟩
    rw [← hz] at hTo
    refine x_true hJ (t := decide ((k : Int) < (fm.fields.length : Int))) (by kernel_rfl) (decide_eq_true (by omega)) ?_
    refine rx hJ false 6 [] [] (.ok (.ops [0, 0, 0, 1, 1, 0, 0, 1, 0, 1, 1] 0) [.seq [1, 0, 0, 1, 1, 0, 0, 1, 0, 1, 1], .block 1, .seq [1, 1, 1, 0, 0, 1, 0, 1, 1]] [(0, .slice A0 l.length c0), (7, .pointer (some ⟨b2, 0, none⟩)), (18, .slice A fm.fields.length c), (19, .int .i64 (fm.fields.length : Int)), (20, .int .i64 (k : Int)), (21, .bool (decide ((k : Int) < (fm.fields.length : Int))))] [.box b2 [.int .i64 (1 + q), .int .i64 vn, .string vt], .box b1 [.int .i64 r.k, .int .i64 r.a, .int .i64 r.b, .string r.t]] []) trivial trivial (fun _ => by kernel_rfl) ?_
    clear hJ a w; intro a w hJ
    obtain ⟨b9, o10, rfl, -, c11⟩ := RS.row hr (hrow)
    replace hJ := hJ.fact (c11.sees s8)
    refine rx hJ false 7 [.ix b9 o10 fm.fields.length c k, .f 0 0, .own, .b 0 0] [] (.new fun b12 => .ok (.code [0, 1, 0, 0, 1, 1, 0, 0, 1, 0, 1, 1]) [.seq [1, 1, 0, 0, 1, 1, 0, 0, 1, 0, 1, 1], .block 1, .seq [1, 1, 1, 0, 0, 1, 0, 1, 1]] [(0, .slice A0 l.length c0), (7, .pointer (some ⟨b2, 0, none⟩)), (18, .slice (some ⟨b9, o10, none⟩) fm.fields.length c), (19, .int .i64 (fm.fields.length : Int)), (20, .int .i64 (k : Int)), (21, .bool (decide ((k : Int) < (fm.fields.length : Int)))), (22, .pointer (some ⟨b9, o10 + k * 9, none⟩)), (23, .agg #[.string f.name, .int .i64 f.kind, .int .i64 f.ty, .int .i64 f.src.op, .int .i64 f.src.k, .int .i64 f.src.n, .string f.src.s, .string f.src.nm, .slice (sA u) (sN u) (sC u)]), (9, .pointer (some ⟨b12, 0, none⟩))] [.box b12 [.string f.name, .int .i64 f.kind, .int .i64 f.ty, .int .i64 f.src.op, .int .i64 f.src.k, .int .i64 f.src.n, .string f.src.s, .string f.src.nm, .slice (sA u) (sN u) (sC u)], .box b2 [.int .i64 (1 + q), .int .i64 vn, .string vt], .box b1 [.int .i64 r.k, .int .i64 r.a, .int .i64 r.b, .string r.t]] [(b9, o10 + k * 9, [.string f.name, .int .i64 f.kind, .int .i64 f.ty, .int .i64 f.src.op, .int .i64 f.src.k, .int .i64 f.src.n, .string f.src.s, .string f.src.nm, .slice (sA u) (sN u) (sC u)])]) (And.intro (by first | omega | (simp; omega)) (trivial)) trivial (fun b12 _ => by kernel_rfl) ?_
    clear hJ a w; intro b12 a w hJ
    let R : Reg := ⟨⟨57, h.w, h.bad, []⟩, [(0, 24, fun gh => .slice A0 l.length c0), (1, 25, fun gh => .agg #[.slice (sA (fstV (gh 1))) (sN (fstV (gh 1))) (sC (fstV (gh 1))), .slice (sA (sndV (gh 1))) (sN (sndV (gh 1))) (sC (sndV (gh 1)))]), (2, 26, fun gh => .slice (sA (fstV (gh 1))) (sN (fstV (gh 1))) (sC (fstV (gh 1)))), (3, 27, fun gh => .pointer (some ⟨b12, 0, none⟩)), (4, 28, fun gh => .string f.name), (5, 29, fun gh => .agg #[.int .i64 (1 + q), .int .i64 vn, .string vt]), (6, 30, fun gh => .int .i64 z), (7, 10, fun gh => .int .i64 z)], [(0, .slice A0 l.length c0), (7, .pointer (some ⟨b2, 0, none⟩)), (18, .slice (some ⟨b9, o10, none⟩) fm.fields.length c), (19, .int .i64 (fm.fields.length : Int)), (20, .int .i64 (k : Int)), (21, .bool (decide ((k : Int) < (fm.fields.length : Int)))), (22, .pointer (some ⟨b9, o10 + k * 9, none⟩)), (23, .agg #[.string f.name, .int .i64 f.kind, .int .i64 f.ty, .int .i64 f.src.op, .int .i64 f.src.k, .int .i64 f.src.n, .string f.src.s, .string f.src.nm, .slice (sA u) (sN u) (sC u)]), (9, .pointer (some ⟨b12, 0, none⟩))], [⟨some (.box b12 [.string f.name, .int .i64 f.kind, .int .i64 f.ty, .int .i64 f.src.op, .int .i64 f.src.k, .int .i64 f.src.n, .string f.src.s, .string f.src.nm, .slice (sA u) (sN u) (sC u)]), []⟩, ⟨some (.box b2 [.int .i64 (1 + q), .int .i64 vn, .string vt]), []⟩, ⟨some (.box b1 [.int .i64 r.k, .int .i64 r.a, .int .i64 r.b, .string r.t]), []⟩], [(1, fun gh hh => IsForm hh (.slice (sA (fstV (gh 1))) (sN (fstV (gh 1))) (sC (fstV (gh 1)))) (.slice (sA (sndV (gh 1))) (sN (sndV (gh 1))) (sC (sndV (gh 1)))) fm)], [[], [0], [0, 1], [], [3], [], [0, 1, 2, 3, 4, 5], [0, 1, 2, 3, 4, 5, 6]], h7⟩
    have hmono : ∀ zq ∈ R.F, ∀ zx zh zi, Sees zh zi → zq.2 zx zh → zq.2 zx zi := mono_cons (fun _ _ _ s c => c.sees s) (mono_nil)
    refine x_region (by kernel_rfl) R hJ 8 [.pu, .cl, .pu, .pu, .ld 0 0, .ld 1 0, .cl, .pu] (by kernel_rfl) hmono (fun _ _ _ => by kernel_rfl) (fun hT hA => ?_) ?_
    · clear hJ
      refine And.intro (r_call hT hA hmono ⟨fun _ _ => by kernel_rfl, fun _ _ => by kernel_rfl, fun _ _ => by kernel_rfl⟩ 25 (fun u => .agg #[.slice (sA (fstV u)) (sN (fstV u)) (sC (fstV u)), .slice (sA (sndV u)) (sN (sndV u)) (sC (sndV u))]) [0] 1 (by kernel_rfl) (by kernel_rfl) (fun _ => by kernel_rfl) 36 (fun gh => #[.slice A0 l.length c0]) (fun _ _ => by kernel_rfl) (fun gh H sH fH lent => C0.facts (R := R) (x := gh) (i := 1) (n := 0) (F := (fun u => .agg #[.slice (sA (fstV u)) (sN (fstV u)) (sC (fstV u)), .slice (sA (sndV u)) (sN (sndV u)) (sC (sndV u))])) (G := fun u hh => IsForm hh (.slice (sA (fstV u)) (sN (fstV u)) (sC (fstV u))) (.slice (sA (sndV u)) (sN (sndV u)) (sC (sndV u))) fm) (f := fun gh hh => IsForm hh (.slice (sA (fstV (gh 1))) (sN (fstV (gh 1))) (sC (fstV (gh 1)))) (.slice (sA (sndV (gh 1))) (sN (sndV (gh 1))) (sC (sndV (gh 1)))) fm) (hU _ (hl.sees (s4.trans (s6.trans (s8.trans sH)))) ll ol) (by kernel_rfl) (by kernel_rfl) (fun _ _ r => r))) ?_
      refine And.intro (r_callv hT hA hmono 30 (fun gh => .int .i64 z) [1, 2, 4, 5] 6 (by kernel_rfl) (by kernel_rfl) (by kernel_rfl) (fun _ => by kernel_rfl) 37 (fun gh => #[.slice (sA (fstV (gh 1))) (sN (fstV (gh 1))) (sC (fstV (gh 1))), .string f.name, .agg #[.int .i64 (1 + q), .int .i64 vn, .string vt]]) (fun _ _ => by kernel_rfl) (fun gh H sH fH lent => hTo _ _ (IsForm.fields (fH 0 _ rfl (by kernel_rfl))))) ?_
      trivial
    clear hJ a w; intro gh h13 a w sR hJ1 hF; have s14 : Sees h7 h13 := sR; clear sR
    have hJ : K ⟨57, h.w, h.bad, []⟩ [(0, .slice A0 l.length c0), (7, .pointer (some ⟨b2, 0, none⟩)), (18, .slice (some ⟨b9, o10, none⟩) fm.fields.length c), (19, .int .i64 (fm.fields.length : Int)), (20, .int .i64 (k : Int)), (21, .bool (decide ((k : Int) < (fm.fields.length : Int)))), (22, .pointer (some ⟨b9, o10 + k * 9, none⟩)), (23, .agg #[.string f.name, .int .i64 f.kind, .int .i64 f.ty, .int .i64 f.src.op, .int .i64 f.src.k, .int .i64 f.src.n, .string f.src.s, .string f.src.nm, .slice (sA u) (sN u) (sC u)]), (9, .pointer (some ⟨b12, 0, none⟩)), (24, .slice A0 l.length c0), (25, .agg #[.slice (sA (fstV (gh 1))) (sN (fstV (gh 1))) (sC (fstV (gh 1))), .slice (sA (sndV (gh 1))) (sN (sndV (gh 1))) (sC (sndV (gh 1)))]), (26, .slice (sA (fstV (gh 1))) (sN (fstV (gh 1))) (sC (fstV (gh 1)))), (27, .pointer (some ⟨b12, 0, none⟩)), (28, .string f.name), (29, .agg #[.int .i64 (1 + q), .int .i64 vn, .string vt]), (30, .int .i64 z), (10, .int .i64 z)] [.box b12 [.string f.name, .int .i64 f.kind, .int .i64 f.ty, .int .i64 f.src.op, .int .i64 f.src.k, .int .i64 f.src.n, .string f.src.s, .string f.src.nm, .slice (sA u) (sN u) (sC u)], .box b2 [.int .i64 (1 + q), .int .i64 vn, .string vt], .box b1 [.int .i64 r.k, .int .i64 r.a, .int .i64 r.b, .string r.t]] [(b9, o10 + k * 9, [.string f.name, .int .i64 f.kind, .int .i64 f.ty, .int .i64 f.src.op, .int .i64 f.src.k, .int .i64 f.src.n, .string f.src.s, .string f.src.nm, .slice (sA u) (sN u) (sC u)])] h13 a w := hJ1.to (by kernel_rfl) (by kernel_rfl) rfl
    have f25 : IsForm h13 (.slice (sA (fstV (gh 1))) (sN (fstV (gh 1))) (sC (fstV (gh 1)))) (.slice (sA (sndV (gh 1))) (sN (sndV (gh 1))) (sC (sndV (gh 1)))) fm := Reg.fact (i := 1) (f := fun gh hh => IsForm hh (.slice (sA (fstV (gh 1))) (sN (fstV (gh 1))) (sC (fstV (gh 1)))) (.slice (sA (sndV (gh 1))) (sN (sndV (gh 1))) (sC (sndV (gh 1)))) fm) hF 0 (by kernel_rfl)
    clear hJ1 hF hmono R
    generalize gh 1 = u25 at *
    clear gh
    refine rx hJ false 9 [.b 0 1] [] (.ok (.ops [0, 1, 1, 0, 0, 1, 1, 0, 0, 1, 0, 1, 1] 6) [.seq [1, 1, 1, 0, 0, 1, 1, 0, 0, 1, 0, 1, 1], .block 1, .seq [1, 1, 1, 0, 0, 1, 0, 1, 1]] [(0, .slice A0 l.length c0), (7, .pointer (some ⟨b2, 0, none⟩)), (18, .slice (some ⟨b9, o10, none⟩) fm.fields.length c), (19, .int .i64 (fm.fields.length : Int)), (20, .int .i64 (k : Int)), (21, .bool (decide ((k : Int) < (fm.fields.length : Int)))), (22, .pointer (some ⟨b9, o10 + k * 9, none⟩)), (23, .agg #[.string f.name, .int .i64 f.kind, .int .i64 f.ty, .int .i64 f.src.op, .int .i64 f.src.k, .int .i64 f.src.n, .string f.src.s, .string f.src.nm, .slice (sA u) (sN u) (sC u)]), (9, .pointer (some ⟨b12, 0, none⟩)), (24, .slice A0 l.length c0), (25, .agg #[.slice (sA (fstV u25)) (sN (fstV u25)) (sC (fstV u25)), .slice (sA (sndV u25)) (sN (sndV u25)) (sC (sndV u25))]), (26, .slice (sA (fstV u25)) (sN (fstV u25)) (sC (fstV u25))), (27, .pointer (some ⟨b12, 0, none⟩)), (28, .string f.name), (29, .agg #[.int .i64 (1 + q), .int .i64 vn, .string vt]), (30, .int .i64 z), (10, .int .i64 z), (31, .int .i64 z), (32, .bool (z == 0)), (33, .pointer (some ⟨b12, 1, none⟩)), (34, .int .i64 f.kind), (35, .bool (f.kind == 1)), (36, .bool (f.kind == 1))] [.box b12 [.string f.name, .int .i64 f.kind, .int .i64 f.ty, .int .i64 f.src.op, .int .i64 f.src.k, .int .i64 f.src.n, .string f.src.s, .string f.src.nm, .slice (sA u) (sN u) (sC u)], .box b2 [.int .i64 (1 + q), .int .i64 vn, .string vt], .box b1 [.int .i64 r.k, .int .i64 r.a, .int .i64 r.b, .string r.t]] [(b9, o10 + k * 9, [.string f.name, .int .i64 f.kind, .int .i64 f.ty, .int .i64 f.src.op, .int .i64 f.src.k, .int .i64 f.src.n, .string f.src.s, .string f.src.nm, .slice (sA u) (sN u) (sC u)])]) trivial trivial (fun _ => by kernel_rfl) ?_
    clear hJ a w; intro a w hJ
    by_cases h1 : f.kind = 1
    · rw [if_pos h1] at hz
      replace hJ := hJ.rew 36 (v := .bool (f.kind == 1)) (v' := .bool true) (congrArg Value.bool (beq_iff_eq.2 h1)) (by kernel_rfl)
      replace hJ : K ⟨57, h.w, h.bad, []⟩ [(0, .slice A0 l.length c0), (7, .pointer (some ⟨b2, 0, none⟩)), (18, .slice (some ⟨b9, o10, none⟩) fm.fields.length c), (19, .int .i64 (fm.fields.length : Int)), (20, .int .i64 (k : Int)), (21, .bool (decide ((k : Int) < (fm.fields.length : Int)))), (22, .pointer (some ⟨b9, o10 + k * 9, none⟩)), (23, .agg #[.string f.name, .int .i64 f.kind, .int .i64 f.ty, .int .i64 f.src.op, .int .i64 f.src.k, .int .i64 f.src.n, .string f.src.s, .string f.src.nm, .slice (sA u) (sN u) (sC u)]), (9, .pointer (some ⟨b12, 0, none⟩)), (24, .slice A0 l.length c0), (25, .agg #[.slice (sA (fstV u25)) (sN (fstV u25)) (sC (fstV u25)), .slice (sA (sndV u25)) (sN (sndV u25)) (sC (sndV u25))]), (26, .slice (sA (fstV u25)) (sN (fstV u25)) (sC (fstV u25))), (27, .pointer (some ⟨b12, 0, none⟩)), (28, .string f.name), (29, .agg #[.int .i64 (1 + q), .int .i64 vn, .string vt]), (30, .int .i64 z), (10, .int .i64 z), (31, .int .i64 z), (32, .bool (z == 0)), (33, .pointer (some ⟨b12, 1, none⟩)), (34, .int .i64 f.kind), (35, .bool (f.kind == 1)), (36, .bool true)] [.box b12 [.string f.name, .int .i64 f.kind, .int .i64 f.ty, .int .i64 f.src.op, .int .i64 f.src.k, .int .i64 f.src.n, .string f.src.s, .string f.src.nm, .slice (sA u) (sN u) (sC u)], .box b2 [.int .i64 (1 + q), .int .i64 vn, .string vt], .box b1 [.int .i64 r.k, .int .i64 r.a, .int .i64 r.b, .string r.t]] [(b9, o10 + k * 9, [.string f.name, .int .i64 f.kind, .int .i64 f.ty, .int .i64 f.src.op, .int .i64 f.src.k, .int .i64 f.src.n, .string f.src.s, .string f.src.nm, .slice (sA u) (sN u) (sC u)])] h13 a w := hJ.to (by kernel_rfl) rfl rfl
      refine rx hJ false 9 [.b 0 2, .b 1 0] [] (.ok (.code [1, 1, 1, 0, 0, 1, 1, 0, 0, 1, 0, 1, 1]) [.block 1, .seq [1, 1, 1, 0, 0, 1, 0, 1, 1]] [(0, .slice A0 l.length c0), (7, .pointer (some ⟨b2, 0, none⟩)), (18, .slice (some ⟨b9, o10, none⟩) fm.fields.length c), (19, .int .i64 (fm.fields.length : Int)), (20, .int .i64 (k : Int)), (21, .bool (decide ((k : Int) < (fm.fields.length : Int)))), (22, .pointer (some ⟨b9, o10 + k * 9, none⟩)), (23, .agg #[.string f.name, .int .i64 f.kind, .int .i64 f.ty, .int .i64 f.src.op, .int .i64 f.src.k, .int .i64 f.src.n, .string f.src.s, .string f.src.nm, .slice (sA u) (sN u) (sC u)]), (9, .pointer (some ⟨b12, 0, none⟩)), (24, .slice A0 l.length c0), (25, .agg #[.slice (sA (fstV u25)) (sN (fstV u25)) (sC (fstV u25)), .slice (sA (sndV u25)) (sN (sndV u25)) (sC (sndV u25))]), (26, .slice (sA (fstV u25)) (sN (fstV u25)) (sC (fstV u25))), (27, .pointer (some ⟨b12, 0, none⟩)), (28, .string f.name), (29, .agg #[.int .i64 (1 + q), .int .i64 vn, .string vt]), (30, .int .i64 z), (10, .int .i64 z), (31, .int .i64 z), (32, .bool (z == 0)), (33, .pointer (some ⟨b12, 1, none⟩)), (34, .int .i64 f.kind), (35, .bool (f.kind == 1)), (36, .bool true), (37, .pointer (some ⟨b12, 2, none⟩)), (38, .int .i64 f.ty), (39, .pointer (some ⟨b2, 0, none⟩)), (40, .int .i64 (1 + q)), (41, .bool (f.ty == (1 + q))), (42, .bool (f.ty == (1 + q))), (43, .bool ((z == 0) != (f.ty == (1 + q))))] [.box b12 [.string f.name, .int .i64 f.kind, .int .i64 f.ty, .int .i64 f.src.op, .int .i64 f.src.k, .int .i64 f.src.n, .string f.src.s, .string f.src.nm, .slice (sA u) (sN u) (sC u)], .box b2 [.int .i64 (1 + q), .int .i64 vn, .string vt], .box b1 [.int .i64 r.k, .int .i64 r.a, .int .i64 r.b, .string r.t]] [(b9, o10 + k * 9, [.string f.name, .int .i64 f.kind, .int .i64 f.ty, .int .i64 f.src.op, .int .i64 f.src.k, .int .i64 f.src.n, .string f.src.s, .string f.src.nm, .slice (sA u) (sN u) (sC u)])]) trivial trivial (fun _ => by kernel_rfl) ?_
      clear hJ a w; intro a w hJ
      refine x_false hJ (t := (z == 0) != (f.ty == (1 + q))) (by kernel_rfl) ((by by_cases h2 : 1 + q = f.ty <;> simp [hz, h2]; omega)) ?_
      refine rx hJ false 7 [] [(44, .int .i64 (IntKind.i64.wrap ((k : Int) + 1)), .int .i64 ((k : Int) + 1))] (.ok (.out .normal) [] [(0, .slice A0 l.length c0), (7, .pointer (some ⟨b2, 0, none⟩)), (18, .slice (some ⟨b9, o10, none⟩) fm.fields.length c), (19, .int .i64 (fm.fields.length : Int)), (21, .bool (decide ((k : Int) < (fm.fields.length : Int)))), (22, .pointer (some ⟨b9, o10 + k * 9, none⟩)), (23, .agg #[.string f.name, .int .i64 f.kind, .int .i64 f.ty, .int .i64 f.src.op, .int .i64 f.src.k, .int .i64 f.src.n, .string f.src.s, .string f.src.nm, .slice (sA u) (sN u) (sC u)]), (9, .pointer (some ⟨b12, 0, none⟩)), (24, .slice A0 l.length c0), (25, .agg #[.slice (sA (fstV u25)) (sN (fstV u25)) (sC (fstV u25)), .slice (sA (sndV u25)) (sN (sndV u25)) (sC (sndV u25))]), (26, .slice (sA (fstV u25)) (sN (fstV u25)) (sC (fstV u25))), (27, .pointer (some ⟨b12, 0, none⟩)), (28, .string f.name), (29, .agg #[.int .i64 (1 + q), .int .i64 vn, .string vt]), (30, .int .i64 z), (10, .int .i64 z), (31, .int .i64 z), (32, .bool (z == 0)), (33, .pointer (some ⟨b12, 1, none⟩)), (34, .int .i64 f.kind), (35, .bool (f.kind == 1)), (36, .bool true), (37, .pointer (some ⟨b12, 2, none⟩)), (38, .int .i64 f.ty), (39, .pointer (some ⟨b2, 0, none⟩)), (40, .int .i64 (1 + q)), (41, .bool (f.ty == (1 + q))), (42, .bool (f.ty == (1 + q))), (43, .bool ((z == 0) != (f.ty == (1 + q)))), (44, .int .i64 ((k : Int) + 1)), (20, .int .i64 ((k : Int) + 1))] [.box b12 [.string f.name, .int .i64 f.kind, .int .i64 f.ty, .int .i64 f.src.op, .int .i64 f.src.k, .int .i64 f.src.n, .string f.src.s, .string f.src.nm, .slice (sA u) (sN u) (sC u)], .box b2 [.int .i64 (1 + q), .int .i64 vn, .string vt], .box b1 [.int .i64 r.k, .int .i64 r.a, .int .i64 r.b, .string r.t]] [(b9, o10 + k * 9, [.string f.name, .int .i64 f.kind, .int .i64 f.ty, .int .i64 f.src.op, .int .i64 f.src.k, .int .i64 f.src.n, .string f.src.s, .string f.src.nm, .slice (sA u) (sN u) (sC u)])]) trivial (And.intro (i64_wrap (by omega) (by omega)) (trivial)) (fun _ => by kernel_rfl) ?_
      clear hJ a w; intro a w hJ
      replace hJ := hJ.drop 0
      exact x_round ⟨k + 1, ⟨h13, (hJ.tof [] (F' := []) (by kernel_rfl)).to (by kernel_rfl) (by kernel_rfl) rfl, (s8.trans s14), by omega⟩, by omega⟩
    · skip
      rw [if_neg h1] at hz
      replace hJ := hJ.rew 36 (v := .bool (f.kind == 1)) (v' := .bool false) (congrArg Value.bool (beq_eq_false_iff_ne.2 h1)) (by kernel_rfl)
      replace hJ : K ⟨57, h.w, h.bad, []⟩ [(0, .slice A0 l.length c0), (7, .pointer (some ⟨b2, 0, none⟩)), (18, .slice (some ⟨b9, o10, none⟩) fm.fields.length c), (19, .int .i64 (fm.fields.length : Int)), (20, .int .i64 (k : Int)), (21, .bool (decide ((k : Int) < (fm.fields.length : Int)))), (22, .pointer (some ⟨b9, o10 + k * 9, none⟩)), (23, .agg #[.string f.name, .int .i64 f.kind, .int .i64 f.ty, .int .i64 f.src.op, .int .i64 f.src.k, .int .i64 f.src.n, .string f.src.s, .string f.src.nm, .slice (sA u) (sN u) (sC u)]), (9, .pointer (some ⟨b12, 0, none⟩)), (24, .slice A0 l.length c0), (25, .agg #[.slice (sA (fstV u25)) (sN (fstV u25)) (sC (fstV u25)), .slice (sA (sndV u25)) (sN (sndV u25)) (sC (sndV u25))]), (26, .slice (sA (fstV u25)) (sN (fstV u25)) (sC (fstV u25))), (27, .pointer (some ⟨b12, 0, none⟩)), (28, .string f.name), (29, .agg #[.int .i64 (1 + q), .int .i64 vn, .string vt]), (30, .int .i64 z), (10, .int .i64 z), (31, .int .i64 z), (32, .bool (z == 0)), (33, .pointer (some ⟨b12, 1, none⟩)), (34, .int .i64 f.kind), (35, .bool (f.kind == 1)), (36, .bool false)] [.box b12 [.string f.name, .int .i64 f.kind, .int .i64 f.ty, .int .i64 f.src.op, .int .i64 f.src.k, .int .i64 f.src.n, .string f.src.s, .string f.src.nm, .slice (sA u) (sN u) (sC u)], .box b2 [.int .i64 (1 + q), .int .i64 vn, .string vt], .box b1 [.int .i64 r.k, .int .i64 r.a, .int .i64 r.b, .string r.t]] [(b9, o10 + k * 9, [.string f.name, .int .i64 f.kind, .int .i64 f.ty, .int .i64 f.src.op, .int .i64 f.src.k, .int .i64 f.src.n, .string f.src.s, .string f.src.nm, .slice (sA u) (sN u) (sC u)])] h13 a w := hJ.to (by kernel_rfl) rfl rfl
      refine rx hJ false 9 [] [] (.ok (.code [1, 1, 1, 0, 0, 1, 1, 0, 0, 1, 0, 1, 1]) [.block 1, .seq [1, 1, 1, 0, 0, 1, 0, 1, 1]] [(0, .slice A0 l.length c0), (7, .pointer (some ⟨b2, 0, none⟩)), (18, .slice (some ⟨b9, o10, none⟩) fm.fields.length c), (19, .int .i64 (fm.fields.length : Int)), (20, .int .i64 (k : Int)), (21, .bool (decide ((k : Int) < (fm.fields.length : Int)))), (22, .pointer (some ⟨b9, o10 + k * 9, none⟩)), (23, .agg #[.string f.name, .int .i64 f.kind, .int .i64 f.ty, .int .i64 f.src.op, .int .i64 f.src.k, .int .i64 f.src.n, .string f.src.s, .string f.src.nm, .slice (sA u) (sN u) (sC u)]), (9, .pointer (some ⟨b12, 0, none⟩)), (24, .slice A0 l.length c0), (25, .agg #[.slice (sA (fstV u25)) (sN (fstV u25)) (sC (fstV u25)), .slice (sA (sndV u25)) (sN (sndV u25)) (sC (sndV u25))]), (26, .slice (sA (fstV u25)) (sN (fstV u25)) (sC (fstV u25))), (27, .pointer (some ⟨b12, 0, none⟩)), (28, .string f.name), (29, .agg #[.int .i64 (1 + q), .int .i64 vn, .string vt]), (30, .int .i64 z), (10, .int .i64 z), (31, .int .i64 z), (32, .bool (z == 0)), (33, .pointer (some ⟨b12, 1, none⟩)), (34, .int .i64 f.kind), (35, .bool (f.kind == 1)), (36, .bool false), (42, .bool false), (43, .bool ((z == 0) != false))] [.box b12 [.string f.name, .int .i64 f.kind, .int .i64 f.ty, .int .i64 f.src.op, .int .i64 f.src.k, .int .i64 f.src.n, .string f.src.s, .string f.src.nm, .slice (sA u) (sN u) (sC u)], .box b2 [.int .i64 (1 + q), .int .i64 vn, .string vt], .box b1 [.int .i64 r.k, .int .i64 r.a, .int .i64 r.b, .string r.t]] [(b9, o10 + k * 9, [.string f.name, .int .i64 f.kind, .int .i64 f.ty, .int .i64 f.src.op, .int .i64 f.src.k, .int .i64 f.src.n, .string f.src.s, .string f.src.nm, .slice (sA u) (sN u) (sC u)])]) trivial trivial (fun _ => by kernel_rfl) ?_
      clear hJ a w; intro a w hJ
      refine x_false hJ (t := (z == 0) != false) (by kernel_rfl) ((by rw [hz]; rfl)) ?_
      refine rx hJ false 7 [] [(44, .int .i64 (IntKind.i64.wrap ((k : Int) + 1)), .int .i64 ((k : Int) + 1))] (.ok (.out .normal) [] [(0, .slice A0 l.length c0), (7, .pointer (some ⟨b2, 0, none⟩)), (18, .slice (some ⟨b9, o10, none⟩) fm.fields.length c), (19, .int .i64 (fm.fields.length : Int)), (21, .bool (decide ((k : Int) < (fm.fields.length : Int)))), (22, .pointer (some ⟨b9, o10 + k * 9, none⟩)), (23, .agg #[.string f.name, .int .i64 f.kind, .int .i64 f.ty, .int .i64 f.src.op, .int .i64 f.src.k, .int .i64 f.src.n, .string f.src.s, .string f.src.nm, .slice (sA u) (sN u) (sC u)]), (9, .pointer (some ⟨b12, 0, none⟩)), (24, .slice A0 l.length c0), (25, .agg #[.slice (sA (fstV u25)) (sN (fstV u25)) (sC (fstV u25)), .slice (sA (sndV u25)) (sN (sndV u25)) (sC (sndV u25))]), (26, .slice (sA (fstV u25)) (sN (fstV u25)) (sC (fstV u25))), (27, .pointer (some ⟨b12, 0, none⟩)), (28, .string f.name), (29, .agg #[.int .i64 (1 + q), .int .i64 vn, .string vt]), (30, .int .i64 z), (10, .int .i64 z), (31, .int .i64 z), (32, .bool (z == 0)), (33, .pointer (some ⟨b12, 1, none⟩)), (34, .int .i64 f.kind), (35, .bool (f.kind == 1)), (36, .bool false), (42, .bool false), (43, .bool ((z == 0) != false)), (44, .int .i64 ((k : Int) + 1)), (20, .int .i64 ((k : Int) + 1))] [.box b12 [.string f.name, .int .i64 f.kind, .int .i64 f.ty, .int .i64 f.src.op, .int .i64 f.src.k, .int .i64 f.src.n, .string f.src.s, .string f.src.nm, .slice (sA u) (sN u) (sC u)], .box b2 [.int .i64 (1 + q), .int .i64 vn, .string vt], .box b1 [.int .i64 r.k, .int .i64 r.a, .int .i64 r.b, .string r.t]] [(b9, o10 + k * 9, [.string f.name, .int .i64 f.kind, .int .i64 f.ty, .int .i64 f.src.op, .int .i64 f.src.k, .int .i64 f.src.n, .string f.src.s, .string f.src.nm, .slice (sA u) (sN u) (sC u)])]) trivial (And.intro (i64_wrap (by omega) (by omega)) (trivial)) (fun _ => by kernel_rfl) ?_
      clear hJ a w; intro a w hJ
      replace hJ := hJ.drop 0
      exact x_round ⟨k + 1, ⟨h13, (hJ.tof [] (F' := []) (by kernel_rfl)).to (by kernel_rfl) (by kernel_rfl) rfl, (s8.trans s14), by omega⟩, by omega⟩
  · skip
    have h0 : IsFds h (.slice none 0 0) [] := ⟨[], RS.nil _ _, by unfold AllSrc AllArgs; rfl⟩
    have hone : ∀ (H : Vw) (b : Nat), Cells H b 0 [.string ⟨#[97]⟩, .int .i64 1, .int .i64 (1 + q), .int .i64 0, .int .i64 0, .int .i64 0, .string ⟨#[]⟩, .string ⟨#[]⟩, .slice none 0 0] → IsFds H (.slice (some ⟨b, 0, none⟩) 1 1) [⟨⟨#[97]⟩, 1, 1 + q, zE⟩] := fun H b hc =>
      ⟨[.slice none 0 0], rs_cells (k := 9) [fdRow ⟨⟨#[97]⟩, 1, 1 + q, zE⟩ (.slice none 0 0)] (fun r hr => by rw [List.mem_singleton.1 hr]; rfl) (show (1 : Nat) ≤ maxLen by decide) hc, by unfold AllSrc AllArgs; exact ⟨_, _, rfl, args_nil _ _ rfl, by unfold AllArgs; rfl⟩⟩
    have htk : toldE [⟨⟨#[97]⟩, 1, 1 + q, zE⟩] ⟨#[97]⟩ (1 + q) = 0 := by
      unfold toldE
      rw [findF_at (fs := [⟨⟨#[97]⟩, 1, 1 + q, zE⟩]) (by simp) (i := 0) (f := ⟨⟨#[97]⟩, 1, 1 + q, zE⟩) rfl]
      simp
    have hT1 := fun H v g => told_any [⟨⟨#[97]⟩, 1, 1 + q, zE⟩] v ⟨#[97]⟩ (1 + q) vn vt H g (by simp) hkn
    rw [htk] at hT1
    refine x_false hJ (t := decide ((k : Int) < (fm.fields.length : Int))) (by kernel_rfl) (decide_eq_false (by omega)) ?_
    refine rx hJ false 2 [] [] (.ok (.out (.exit 0)) [] [(0, .slice A0 l.length c0), (7, .pointer (some ⟨b2, 0, none⟩)), (18, .slice A fm.fields.length c), (19, .int .i64 (fm.fields.length : Int)), (20, .int .i64 (k : Int)), (21, .bool (decide ((k : Int) < (fm.fields.length : Int))))] [.box b2 [.int .i64 (1 + q), .int .i64 vn, .string vt], .box b1 [.int .i64 r.k, .int .i64 r.a, .int .i64 r.b, .string r.t]] []) trivial trivial (fun _ => by kernel_rfl) ?_
    clear hJ a w; intro a w hJ
    refine x_leave rfl ?_
    refine rx hJ true 13 [.b 0 0, .cl 37 #[.slice none 0 0, .string ⟨#[97]⟩, .agg #[.int .i64 (1 + q), .int .i64 vn, .string vt]] (.int .i64 5), .b 0 0, .fix, .b 0 0] [] (.new fun bone => .ok (.ops [0, 1, 1, 1] 9) [.seq [1, 1, 1, 1]] [(48, .bool true), (52, .slice (some ⟨bone, 0, none⟩) 1 1), (53, .agg #[.int .i64 (1 + q), .int .i64 vn, .string vt])] [.box b2 [.int .i64 (1 + q), .int .i64 vn, .string vt], .box b1 [.int .i64 r.k, .int .i64 r.a, .int .i64 r.b, .string r.t]] [(bone, 0, [.string ⟨#[97]⟩, .int .i64 1, .int .i64 (1 + q), .int .i64 0, .int .i64 0, .int .i64 0, .string ⟨#[]⟩, .string ⟨#[]⟩, .slice none 0 0])]) (And.intro (fun H sH => told_any [] _ _ (1 + q) vn vt _ (h0.sees (s4.trans (s6.trans (s8.trans sH)))) (by simp) hkn) (trivial)) trivial (fun bone _ => by kernel_rfl) ?_
    clear hJ a w; intro bone h15 a w s16 hJ
    have one : Cells h15 bone 0 [.string ⟨#[97]⟩, .int .i64 1, .int .i64 (1 + q), .int .i64 0, .int .i64 0, .int .i64 0, .string ⟨#[]⟩, .string ⟨#[]⟩, .slice none 0 0] := hJ.f _ (List.mem_of_getElem? (i := 0) rfl)
    refine rx hJ false 7 [.cl 37 #[.slice (some ⟨bone, 0, none⟩) 1 1, .string ⟨#[97]⟩, .agg #[.int .i64 (1 + q), .int .i64 vn, .string vt]] (.int .i64 0)] [] (.ok (.out .ret) [] [(6, .bool true)] [.box b2 [.int .i64 (1 + q), .int .i64 vn, .string vt], .box b1 [.int .i64 r.k, .int .i64 r.a, .int .i64 r.b, .string r.t]] [(bone, 0, [.string ⟨#[97]⟩, .int .i64 1, .int .i64 (1 + q), .int .i64 0, .int .i64 0, .int .i64 0, .string ⟨#[]⟩, .string ⟨#[]⟩, .slice none 0 0])]) (And.intro (fun H sH => hT1 _ _ (hone _ _ (one.sees sH))) (trivial)) trivial (fun _ => by kernel_rfl) ?_
    clear hJ a w; intro a w hJ
    refine x_end (hQ [.bool true] _ [] hJ (.rtmp hJ.j (by kernel_rfl) .nil) (no_own _) rfl ?_).1
    exact rfl

theorem fieldAsks_walk (v : Value) (l : List RawD) (r : RawD) (kd : Int) (w : World) (h : RawsOf w v l) (hr : r.ok) (k0 : -9223372036854775808 ≤ kd) (k1 : kd ≤ 9223372036854775807) :
    Calls Try.prog 11 #[v, r.val, .int .i64 kd] w fun e w' => e = .returned (.bool true) ∧ Below w.heap.size w w' :=
  C0.law (fieldAsks_c l v r kd ⟨w, []⟩ h.rs h.2.1 h.2.2 hr k0 k1)

namespace fieldAsksLaw
open Go.ChangeShapes Go.WideShapes Go.ChangeAt Go.RowKit
open Go.ChangeMaps (open_string shut_string)
set_option linter.unusedVariables false

set_option maxRecDepth 100000 in
theorem lifted (os : Os) (started : os.Started) (H : Type) (enc : TypeId × Value → H) :
    ReturnsInHanded {} Try.checked os 11 .any (Rows.fieldAsksSpec.pre6 enc Try.prog Try.f11 Rows.fieldAsksRow.domain false) (Rows.fieldAsksSpec.post enc Try.prog Try.f11 false true false false) := by
  refine returnsInHanded_of_change_sized (C := Try.checked) ownNone started (by kernel_rfl) Try.func11
    (ChangeSpec.witness6 (enc := enc) (C := Try.checked) false ⟨#[], #[.slice none 0 0, .agg #[.int .i64 0, .int .i64 0, .int .i64 0, .string ByteArray.empty], .int .i64 0], []⟩ 8 (by kernel_rfl) (by kernel_rfl) (by kernel_rfl) (by kernel_rfl)) ?_
  intro W base args ds gs before hval0 hW hcnd hsz0 _
  have hval : ∀ (j : Nat) t v, Try.f11.params[j]? = some t → args[j]? = some v → Value.okWide Try.prog W .any base t v := hval0
  have hsz : (DataW.weightsEach Try.prog (Try.f11.params.toList ++ Rows.fieldAsksSpec.plain.varTypes Try.prog) (ds ++ gs)).all (· ≤ reachBytes) = true := hsz0
  have hW' := hW
  obtain ⟨p, q, hA0, hV, rfl, hfz, hnd⟩ := hW
  have hA : DataW.TrodAll enc Try.prog W 0 (fun _ => true) true Try.f11.params.toList args.toList ds p := hA0
  rw [Try.params11] at hA hval hsz
  obtain ⟨v0, vs0, d0, ds0, p0, q0, hargs, rfl, rfl, h0, r0⟩ := trodAll_cons hA
  obtain ⟨v1, vs1, d1, ds1, p1, q1, rfl, rfl, rfl, h1, r1⟩ := trodAll_cons r0
  obtain ⟨v2, vs2, d2, ds2, p2, q2, rfl, rfl, rfl, h2, r2⟩ := trodAll_cons r1
  obtain ⟨rfl, rfl, rfl⟩ := trodAll_nil r2
  obtain rfl : args = #[v0, v1, v2] := by cases args; simp_all
  obtain ⟨rfl, rfl⟩ := trodVars_none hV
  have k0 := h0
  have lt0 : ∀ x ∈ p0, x.block < W.heap.size := by obtain ⟨m, hm⟩ := k0; exact DataW.trod_lt m _ _ _ hm
  obtain ⟨a0, w0⟩ := open_rows (hval 0 22 v0 rfl rfl) h0 (fun es ss hd => sized_slice hsz (j := 0) (t := 22) (elems := es) (spare := ss) rfl (by rw [hd]; rfl) Try.underlying22)
  have k1 := h1
  have lt1 : ∀ x ∈ p1, x.block < W.heap.size := by obtain ⟨m, hm⟩ := k1; exact DataW.trod_lt m _ _ _ hm
  obtain ⟨a1, rfl, w1⟩ := open_raw (hval 1 47 v1 rfl rfl) h1
  have k2 := h2
  have lt2 : ∀ x ∈ p2, x.block < W.heap.size := by obtain ⟨m, hm⟩ := k2; exact DataW.trod_lt m _ _ _ hm
  obtain ⟨a2, rfl, -, -, w2⟩ := open_int Try.underlying3 (hval 2 3 v2 rfl rfl) h2
  clear hA0 hval0 hsz0
  refine (fieldAsks_walk v0 a0 a1 a2 W w0 w1 (int_lo w2) (int_hi w2)).mono fun e W' ⟨he, bel⟩ => ?_
  subst he
  exact ⟨_, rfl, _, _, _, [], _, [], hW', trodAll_mk1 (shut_bool Try.underlying4 _), (trodAll_cons_mk (Below.trod laidOutTrue (by kernel_rfl) (of_decide_eq_true (by kernel_rfl)) k0 bel lt0) (trodAll_cons_mk (Below.trod laidOutTrue (by kernel_rfl) (of_decide_eq_true (by kernel_rfl)) k1 bel lt1) (trodAll_cons_mk (Below.trod laidOutTrue (by kernel_rfl) (of_decide_eq_true (by kernel_rfl)) k2 bel lt2) trodAll_mk0))), rfl, bel.frame _, fun h => by cases h⟩

theorem over : Rows.fieldAsksRow.holds Try.pinned (OpenSpec.ofChange Rows.fieldAsksSpec) :=
  OpenClaim.holds_of_wide 11 Try.f11 rfl rfl rfl rfl rfl rfl rfl ⟨rfl, rfl, rfl, rfl, rfl⟩ rfl rfl rfl rfl rfl (by kernel_rfl) Try.func11 (by kernel_rfl)
    (of_decide_eq_true (by kernel_rfl)) (by unfold Func.isWrapper; first | (rw [if_pos (by decide +kernel)]; kernel_rfl) | (rw [if_neg (by decide +kernel)]; exact ⟨rfl, rfl⟩))
    (fun os started H enc _ => lifted os started H enc)

end fieldAsksLaw
theorem fieldAsks_holds : Rows.FieldAsksSaid := fieldAsksLaw.over
#print axioms fieldAsks_holds
end Go.Proofs.Ytpckomnpeainlab

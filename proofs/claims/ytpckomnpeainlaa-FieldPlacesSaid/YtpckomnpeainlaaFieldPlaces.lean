/-
  For all raw things FieldPlaces returns true: every field is found at its index. No condition.
-/
import Derived.Test.YtpckomnpeainlaaSmall
import Derived.Test.YtpckomnpeainlaaFind
import Derived.Test.YtpckomnpeainlaaLawX
namespace Go.Proofs.Ytpckomnpeainlaa
open Go.RowKit
set_option linter.unusedVariables false

theorem fname_none {i : Nat} (hi : i < 10) : fname i ≠ ⟨#[110, 111, 110, 101]⟩ := by
  have key : ∀ i, i < 10 → (fname i).data ≠ #[110, 111, 110, 101] := by decide
  exact fun e => key i hi (congrArg ByteArray.data e)

set_option maxHeartbeats 4000000 in
set_option maxRecDepth 100000 in
theorem fieldPlaces_c (l : List RawD) (sl : Value) (h : Vw) (hl : RS h 4 sl (l.map RawD.cs)) (ll : l.length * 40 ≤ reachBytes) (ol : ∀ r ∈ l, r.ok) :
    C0 Try.prog 3 #[sl] h (fun v _ => v = .bool true) := by
  have hF := form_c l sl
  have hlen := form_len l
  have hnl := nFields_le l
  have hnd := form_nodup l
  have hno : findF (formE l).fields ⟨#[110, 111, 110, 101]⟩ = -1 := findF_none fun f hf => by
    obtain ⟨i, hi, e, -⟩ := form_each hf
    rw [e]; exact fname_none hi
  have hs2 : findF smallF.fields ⟨#[99]⟩ = ((2 : Nat) : Int) := findF_at (fs := smallF.fields) (by decide) (i := 2) (f := ⟨⟨#[99]⟩, 3, 3, smallB⟩) rfl
  generalize formE l = fm at *
  obtain ⟨A0, c0, rfl, -, -, -⟩ := hl.form
  rw [List.length_map] at *
  refine x_con Try.func3 (c := Try.f3.body.getD .skip) (by kernel_rfl) (N := 58) rfl (by kernel_rfl) ?_
  intro hbx hbad Q hQ a w hJ
  replace hJ : K ⟨58, h.w, h.bad, []⟩ [(0, .slice A0 l.length c0)] [] [] h a w := hJ.to (by kernel_rfl) (by kernel_rfl) rfl
  refine rx hJ false 8 [] [] (.ok (.ops [0, 1] 1) [.seq [1, 1]] [(2, .bool false), (12, .slice A0 l.length c0)] [] []) trivial trivial (fun _ => by kernel_rfl) ?_
  clear hJ a w; intro a w hJ
  refine x_call hJ 13 (hF _ (hl.sees hJ.j.sees) ll ol) (fun _ => by kernel_rfl) ?_; clear hJ a w; rintro _ h1 a w s2 ⟨A, c, B, d, rfl, hfm⟩ hJ
  refine rx hJ false 13 [] [] (.ok (.code [0, 1, 0, 1, 1]) [.block 0, .seq [1, 1, 1]] [(2, .bool false), (3, .slice A fm.fields.length c), (15, .slice A fm.fields.length c), (16, .int .i64 (fm.fields.length : Int)), (17, .int .i64 0)] [] []) trivial trivial (fun _ => by kernel_rfl) ?_
  clear hJ a w; intro a w hJ
  obtain ⟨vs, A', c', e, -, -, hr, -, hvl, hsl⟩ := fds_open hfm.fields
  simp only [Value.slice.injEq] at e
  obtain ⟨rfl, -, rfl⟩ := e
  refine x_loop (fun (k : Nat) a w => ∃ (h3 : Vw) , K ⟨58, h.w, h.bad, []⟩ [(3, .slice A fm.fields.length c), (15, .slice A fm.fields.length c), (16, .int .i64 (fm.fields.length : Int)), (17, .int .i64 (k : Int))] [] [] h3 a w ∧ Sees h1 h3 ∧ (k ≤ fm.fields.length)) (fun k => fm.fields.length - k) (0) (by kernel_rfl) ⟨h1, hJ.to (by kernel_rfl) (by kernel_rfl) rfl, Sees.refl _, Nat.zero_le _⟩ ?_
  clear hJ a w; rintro k a w ⟨h3, hJ, s4, hk⟩
  refine rx hJ false 6 [] [] (.ok (.code [0, 1, 0, 0, 1, 0, 1, 1]) [.seq [1, 1, 0, 0, 1, 0, 1, 1]] [(3, .slice A fm.fields.length c), (15, .slice A fm.fields.length c), (16, .int .i64 (fm.fields.length : Int)), (17, .int .i64 (k : Int)), (18, .bool (decide ((k : Int) < (fm.fields.length : Int))))] [] []) trivial trivial (fun _ => by kernel_rfl) ?_
  clear hJ a w; intro a w hJ
  rcases (by omega : k < fm.fields.length ∨ k = fm.fields.length) with hlt | hke
  · obtain ⟨f, hfk⟩ : ∃ f, fm.fields[k]? = some f := ⟨_, List.getElem?_eq_getElem (by omega)⟩
    obtain ⟨u, huk⟩ : ∃ u, vs[k]? = some u := ⟨_, List.getElem?_eq_getElem (by omega)⟩
    have hrow : (fdRows fm.fields vs)[k]? = some (fdRow f (.slice (sA u) (sN u) (sC u))) := by rw [hsl u (List.mem_of_getElem? huk)]; exact fdRows_get hfk huk
    refine x_true hJ (t := decide ((k : Int) < (fm.fields.length : Int))) (by kernel_rfl) (decide_eq_true (by omega)) ?_
    refine rx hJ false 7 [] [] (.ok (.ops [0, 0, 0, 1, 1, 0, 0, 1, 0, 1, 1] 1) [.seq [1, 0, 0, 1, 1, 0, 0, 1, 0, 1, 1], .block 1, .seq [1, 1, 1, 0, 0, 1, 0, 1, 1]] [(3, .slice A fm.fields.length c), (15, .slice A fm.fields.length c), (16, .int .i64 (fm.fields.length : Int)), (17, .int .i64 (k : Int)), (18, .bool (decide ((k : Int) < (fm.fields.length : Int)))), (19, .int .i64 (k : Int))] [] []) trivial trivial (fun _ => by kernel_rfl) ?_
    clear hJ a w; intro a w hJ
    obtain ⟨b5, o6, rfl, -, c7⟩ := RS.row hr (hrow)
    replace hJ := hJ.fact (c7.sees s4)
    refine rx hJ false 31 [.ix b5 o6 fm.fields.length c k, .f 0 0, .own, .b 0 0, .b 0 0, .cl 16 #[.slice (some ⟨b5, o6, none⟩) fm.fields.length c, .string f.name] (.tuple #[.int .i64 (k : Int), .int .i64 0])] [] (.new fun b8 => .ok (.code [1, 1, 1, 0, 0, 1, 1, 0, 0, 1, 0, 1, 1]) [.block 1, .seq [1, 1, 1, 0, 0, 1, 0, 1, 1]] [(3, .slice (some ⟨b5, o6, none⟩) fm.fields.length c), (15, .slice (some ⟨b5, o6, none⟩) fm.fields.length c), (16, .int .i64 (fm.fields.length : Int)), (17, .int .i64 (k : Int)), (18, .bool (decide ((k : Int) < (fm.fields.length : Int)))), (19, .int .i64 (k : Int)), (20, .pointer (some ⟨b5, o6 + k * 9, none⟩)), (21, .agg #[.string f.name, .int .i64 f.kind, .int .i64 f.ty, .int .i64 f.src.op, .int .i64 f.src.k, .int .i64 f.src.n, .string f.src.s, .string f.src.nm, .slice (sA u) (sN u) (sC u)]), (5, .pointer (some ⟨b8, 0, none⟩)), (4, .int .i64 (k : Int)), (23, .slice (some ⟨b5, o6, none⟩) fm.fields.length c), (24, .pointer (some ⟨b8, 0, none⟩)), (25, .string f.name), (26, .tuple #[.int .i64 (k : Int), .int .i64 0]), (22, .tuple #[.int .i64 (k : Int), .int .i64 0]), (27, .int .i64 (k : Int)), (28, .int .i64 0), (6, .int .i64 (k : Int)), (7, .int .i64 0), (29, .int .i64 0), (30, .bool false), (31, .bool false), (32, .int .i64 (k : Int)), (33, .int .i64 (k : Int)), (34, .bool ((k : Int) != (k : Int))), (35, .bool ((k : Int) != (k : Int)))] [.box b8 [.string f.name, .int .i64 f.kind, .int .i64 f.ty, .int .i64 f.src.op, .int .i64 f.src.k, .int .i64 f.src.n, .string f.src.s, .string f.src.nm, .slice (sA u) (sN u) (sC u)]] [(b5, o6 + k * 9, [.string f.name, .int .i64 f.kind, .int .i64 f.ty, .int .i64 f.src.op, .int .i64 f.src.k, .int .i64 f.src.n, .string f.src.s, .string f.src.nm, .slice (sA u) (sN u) (sC u)])]) (And.intro (by first | omega | (simp; omega)) (And.intro (fun H sH => find_yes fm.fields _ f.name k _ ((hfm.sees (s4.trans sH))).fields (by omega) (findF_at hnd hfk)) (trivial))) trivial (fun b8 _ => by kernel_rfl) ?_
    clear hJ a w; intro b8 a w hJ
    refine x_false hJ (t := (k : Int) != (k : Int)) (by kernel_rfl) (by simp) ?_
    refine rx hJ false 7 [] [(36, .int .i64 (IntKind.i64.wrap ((k : Int) + 1)), .int .i64 ((k : Int) + 1))] (.ok (.out .normal) [] [(3, .slice (some ⟨b5, o6, none⟩) fm.fields.length c), (15, .slice (some ⟨b5, o6, none⟩) fm.fields.length c), (16, .int .i64 (fm.fields.length : Int)), (18, .bool (decide ((k : Int) < (fm.fields.length : Int)))), (19, .int .i64 (k : Int)), (20, .pointer (some ⟨b5, o6 + k * 9, none⟩)), (21, .agg #[.string f.name, .int .i64 f.kind, .int .i64 f.ty, .int .i64 f.src.op, .int .i64 f.src.k, .int .i64 f.src.n, .string f.src.s, .string f.src.nm, .slice (sA u) (sN u) (sC u)]), (5, .pointer (some ⟨b8, 0, none⟩)), (4, .int .i64 (k : Int)), (23, .slice (some ⟨b5, o6, none⟩) fm.fields.length c), (24, .pointer (some ⟨b8, 0, none⟩)), (25, .string f.name), (26, .tuple #[.int .i64 (k : Int), .int .i64 0]), (22, .tuple #[.int .i64 (k : Int), .int .i64 0]), (27, .int .i64 (k : Int)), (28, .int .i64 0), (6, .int .i64 (k : Int)), (7, .int .i64 0), (29, .int .i64 0), (30, .bool false), (31, .bool false), (32, .int .i64 (k : Int)), (33, .int .i64 (k : Int)), (34, .bool ((k : Int) != (k : Int))), (35, .bool ((k : Int) != (k : Int))), (36, .int .i64 ((k : Int) + 1)), (17, .int .i64 ((k : Int) + 1))] [.box b8 [.string f.name, .int .i64 f.kind, .int .i64 f.ty, .int .i64 f.src.op, .int .i64 f.src.k, .int .i64 f.src.n, .string f.src.s, .string f.src.nm, .slice (sA u) (sN u) (sC u)]] [(b5, o6 + k * 9, [.string f.name, .int .i64 f.kind, .int .i64 f.ty, .int .i64 f.src.op, .int .i64 f.src.k, .int .i64 f.src.n, .string f.src.s, .string f.src.nm, .slice (sA u) (sN u) (sC u)])]) trivial (And.intro (i64_wrap (by omega) (by omega)) (trivial)) (fun _ => by kernel_rfl) ?_
    clear hJ a w; intro a w hJ
    replace hJ := hJ.drop 0
    exact x_round ⟨k + 1, ⟨h3, (hJ.tof [] (F' := []) (by kernel_rfl)).to (by kernel_rfl) (by kernel_rfl) rfl, s4, by omega⟩, by omega⟩
  · skip
    refine x_false hJ (t := decide ((k : Int) < (fm.fields.length : Int))) (by kernel_rfl) (decide_eq_false (by omega)) ?_
    refine rx hJ false 2 [] [] (.ok (.out (.exit 0)) [] [(3, .slice A fm.fields.length c), (15, .slice A fm.fields.length c), (16, .int .i64 (fm.fields.length : Int)), (17, .int .i64 (k : Int)), (18, .bool (decide ((k : Int) < (fm.fields.length : Int))))] [] []) trivial trivial (fun _ => by kernel_rfl) ?_
    clear hJ a w; intro a w hJ
    refine x_leave rfl ?_
    refine rx hJ false 15 [.cl 16 #[.slice A fm.fields.length c, .string ⟨#[110, 111, 110, 101]⟩] (.tuple #[.int .i64 0, .int .i64 5])] [] (.ok (.ops [0, 1, 1, 1, 1] 0) [.seq [1, 1, 1, 1, 1]] [(9, .int .i64 5)] [] []) (And.intro (fun H sH => find_no fm.fields _ _ _ ((hfm.sees (s4.trans sH))).fields (by omega) (by omega)) (trivial)) trivial (fun _ => by kernel_rfl) ?_
    clear hJ a w; intro a w hJ
    refine x_call hJ 43 (small_any _) (fun _ => by kernel_rfl) ?_; clear hJ a w; rintro _ h9 a w s10 ⟨A1, c1, B1, d1, rfl, hsm⟩ hJ
    refine rx hJ false 1 [] [] (.ok (.ops [0, 1, 1, 1, 1] 2) [.seq [1, 1, 1, 1, 1]] [(9, .int .i64 5), (44, .slice A1 3 c1)] [] []) trivial trivial (fun _ => by kernel_rfl) ?_
    clear hJ a w; intro a w hJ
    refine rx hJ false 24 [.cl 16 #[.slice A1 3 c1, .string ⟨#[99]⟩] (.tuple #[.int .i64 ((2 : Nat) : Int), .int .i64 0])] [] (.ok (.out .ret) [] [(2, .bool (((2 : Nat) : Int) == 2))] [] []) (And.intro (fun H sH => find_yes smallF.fields _ ⟨#[99]⟩ 2 _ ((hsm.sees sH)).fields (by decide) hs2) (trivial)) trivial (fun _ => by kernel_rfl) ?_
    clear hJ a w; intro a w hJ
    refine x_end (hQ [.bool (((2 : Nat) : Int) == 2)] _ [] hJ (.rtmp hJ.j (by kernel_rfl) .nil) (no_own _) rfl ?_).1
    exact rfl

theorem fieldPlaces_walk (v : Value) (l : List RawD) (w : World) (h : RawsOf w v l) :
    Calls Try.prog 3 #[v] w fun e w' => e = .returned (.bool true) ∧ Below w.heap.size w w' :=
  C0.law (fieldPlaces_c l v ⟨w, []⟩ h.rs h.2.1 h.2.2)

namespace fieldPlacesLaw
open Go.ChangeShapes Go.WideShapes Go.ChangeAt Go.RowKit
open Go.ChangeMaps (open_string shut_string)
set_option linter.unusedVariables false

set_option maxRecDepth 100000 in
theorem lifted (os : Os) (started : os.Started) (H : Type) (enc : TypeId × Value → H) :
    ReturnsInHanded {} Try.checked os 3 .any (Rows.fieldPlacesSpec.pre6 enc Try.prog Try.f3 Rows.fieldPlacesRow.domain false) (Rows.fieldPlacesSpec.post enc Try.prog Try.f3 false true false false) := by
  refine returnsInHanded_of_change_sized (C := Try.checked) ownNone started (by kernel_rfl) Try.func3
    (ChangeSpec.witness6 (enc := enc) (C := Try.checked) false ⟨#[], #[.slice none 0 0], []⟩ 8 (by kernel_rfl) (by kernel_rfl) (by kernel_rfl) (by kernel_rfl)) ?_
  intro W base args ds gs before hval0 hW hcnd hsz0 _
  have hval : ∀ (j : Nat) t v, Try.f3.params[j]? = some t → args[j]? = some v → Value.okWide Try.prog W .any base t v := hval0
  have hsz : (DataW.weightsEach Try.prog (Try.f3.params.toList ++ Rows.fieldPlacesSpec.plain.varTypes Try.prog) (ds ++ gs)).all (· ≤ reachBytes) = true := hsz0
  have hW' := hW
  obtain ⟨p, q, hA0, hV, rfl, hfz, hnd⟩ := hW
  have hA : DataW.TrodAll enc Try.prog W 0 (fun _ => true) true Try.f3.params.toList args.toList ds p := hA0
  rw [Try.params3] at hA hval hsz
  obtain ⟨v0, vs0, d0, ds0, p0, q0, hargs, rfl, rfl, h0, r0⟩ := trodAll_cons hA
  obtain ⟨rfl, rfl, rfl⟩ := trodAll_nil r0
  obtain rfl : args = #[v0] := by cases args; simp_all
  obtain ⟨rfl, rfl⟩ := trodVars_none hV
  have k0 := h0
  have lt0 : ∀ x ∈ p0, x.block < W.heap.size := by obtain ⟨m, hm⟩ := k0; exact DataW.trod_lt m _ _ _ hm
  obtain ⟨a0, w0⟩ := open_rows (hval 0 22 v0 rfl rfl) h0 (fun es ss hd => sized_slice hsz (j := 0) (t := 22) (elems := es) (spare := ss) rfl (by rw [hd]; rfl) Try.underlying22)
  clear hA0 hval0 hsz0
  refine (fieldPlaces_walk v0 a0 W w0).mono fun e W' ⟨he, bel⟩ => ?_
  subst he
  exact ⟨_, rfl, _, _, _, [], _, [], hW', trodAll_mk1 (shut_bool Try.underlying4 _), (trodAll_cons_mk (Below.trod laidOutTrue (by kernel_rfl) (of_decide_eq_true (by kernel_rfl)) k0 bel lt0) trodAll_mk0), rfl, bel.frame _, fun h => by cases h⟩

theorem over : Rows.fieldPlacesRow.holds Try.pinned (OpenSpec.ofChange Rows.fieldPlacesSpec) :=
  OpenClaim.holds_of_wide 3 Try.f3 rfl rfl rfl rfl rfl rfl rfl ⟨rfl, rfl, rfl, rfl, rfl⟩ rfl rfl rfl rfl rfl (by kernel_rfl) Try.func3 (by kernel_rfl)
    (of_decide_eq_true (by kernel_rfl)) (by unfold Func.isWrapper; first | (rw [if_pos (by decide +kernel)]; kernel_rfl) | (rw [if_neg (by decide +kernel)]; exact ⟨rfl, rfl⟩))
    (fun os started H enc _ => lifted os started H enc)

end fieldPlacesLaw
theorem fieldPlaces_holds : Rows.FieldPlacesSaid := fieldPlacesLaw.over
#print axioms fieldPlaces_holds
end Go.Proofs.Ytpckomnpeainlaa

/-
  Contracts of package sheet: Check, Free, where the form may be.
-/
import Derived.Test.YtgjndkphfabnnaaPgChk
import Derived.Test.YtgjndkphfabnnaaRankO
namespace Go.Proofs.Ytgjndkphfabnnaa
open Go.RowKit
set_option linter.unusedVariables false

/-- A form may be. -/
structure OkFm (f : Fm) (ρ : List Int) (lv : Nat → Nat) : Prop where
  fields : OkFs f.fields
  pages : OkGs f.fields f.pages
  rank : Ranked (needsE f.fields) ρ lv

theorem shCheck_any (f : Fm) (ρ : List Int) (lv : Nat → Nat) (A : Option Addr) (n c : Nat) (B : Option Addr) (m d : Nat) (h : Vw) (hok : OkFm f ρ lv) (hf : IsForm h (.slice A n c) (.slice B m d) f) (hn : n = f.fields.length) :
    C0 Try.prog 68 #[.agg #[.slice A n c, .slice B m d]] h (fun r _ => r = .int .i64 0) := by
  have hR := fun H q => rankOf_any f.fields (.slice A n c) H hok.fields q ρ lv hok.rank
  have few := hok.fields.few
  have hP := fun H q1 q2 => pgCheck_any f.fields (.slice A n c) f.pages (.slice B m d) H hok.pages q1 q2 (by omega)
  rw [← hn] at hR
  refine x_con Try.func68 (c := Try.f68.body.getD .skip) (by kernel_rfl) (N := 21) rfl (by kernel_rfl) ?_
  intro hbx hbad Q hQ a w hJ
  replace hJ : K ⟨21, h.w, h.bad, []⟩ [(0, .agg #[.slice A n c, .slice B m d])] [] [] h a w := hJ.to (by kernel_rfl) (by kernel_rfl) rfl
  refine rx hJ false 11 [.own, .b 0 0] [] (.new fun b1 => .ok (.ops [0, 0, 1] 2) [.seq [1, 0, 1], .seq [1, 1]] [(1, .pointer (some ⟨b1, 0, none⟩)), (2, .int .i64 0), (8, .slice A n c)] [.box b1 [.slice A n c, .slice B m d]] []) trivial trivial (fun b1 _ => by kernel_rfl) ?_
  clear hJ a w; intro b1 a w hJ
  refine x_call hJ 9 (hR _ ((hf.sees hJ.j.sees)).fields) (fun _ => by kernel_rfl) ?_; clear hJ a w; rintro _ h2 a w s3 ⟨b, rfl, hro⟩ hJ
  refine rx hJ false 24 [.b 0 1, .b 0 0] [] (.ok (.ops [0, 1, 1] 4) [.seq [1, 1, 1]] [(2, .int .i64 0), (17, .slice B m d), (19, .slice A n c)] [.box b1 [.slice A n c, .slice B m d]] []) trivial trivial (fun _ => by kernel_rfl) ?_
  clear hJ a w; intro a w hJ
  refine rx hJ false 5 [.cl 28 #[.slice B m d, .slice A n c] (.int .i64 0)] [] (.ok (.out .ret) [] [(2, .int .i64 0)] [.box b1 [.slice A n c, .slice B m d]] []) (And.intro (fun H sH => hP _ ((hf.sees (s3.trans sH))).pages ((hf.sees (s3.trans sH))).fields) (trivial)) trivial (fun _ => by kernel_rfl) ?_
  clear hJ a w; intro a w hJ
  refine x_end (hQ [.int .i64 0] _ [] hJ (.rtmp hJ.j (by kernel_rfl) .nil) (no_own _) rfl ?_).1
  exact rfl

def freeE (gs : List Pg) (fs : List Fd) : List ByteArray := (fs.filter fun x => decide (ofG gs x.name < 0)).map fun x => x.name
theorem freeE_snoc (gs : List Pg) (fs : List Fd) (x : Fd) : freeE gs (fs ++ [x]) = freeE gs fs ++ if ofG gs x.name < 0 then [x.name] else [] := by
  unfold freeE
  rw [List.filter_append, List.map_append]
  by_cases g : ofG gs x.name < 0
  · simp [g]
  · simp [g]
theorem freeE_len (gs : List Pg) (fs : List Fd) : (freeE gs fs).length ≤ fs.length := by
  unfold freeE
  rw [List.length_map]
  exact List.length_filter_le _ _

set_option maxHeartbeats 4000000 in
set_option maxRecDepth 100000 in
theorem free_any (f : Fm) (ρ : List Int) (lv : Nat → Nat) (A : Option Addr) (n c : Nat) (B : Option Addr) (m d : Nat) (h : Vw) (hok : OkFm f ρ lv) (hf : IsForm h (.slice A n c) (.slice B m d) f) (hn : n = f.fields.length) :
    C0 Try.prog 33 #[.agg #[.slice A n c, .slice B m d]] h (fun r h' => ∃ A c, r = .tuple #[.slice A (freeE f.pages f.fields).length c, .int .i64 0] ∧ RS h' 1 (.slice A (freeE f.pages f.fields).length c) (strRows (freeE f.pages f.fields))) := by
  have hC := fun H q => shCheck_any f ρ lv A n c B m d H hok q hn
  have few := hok.fields.few
  have gfew := hok.pages.few
  have hO := fun H s q => gOf_any f.pages (.slice B m d) s H q (by omega) (fun p hp => by have := hok.pages.fl p hp; omega)
  obtain ⟨vs, A', c', e, -, -, hr, hs, hvl, hsl⟩ := fds_open hf.fields
  simp only [Value.slice.injEq] at e
  obtain ⟨rfl, -, rfl⟩ := e
  rw [← hn] at hr hvl
  have hfl := fun k => freeE_len f.pages (f.fields.take k)
  refine x_con Try.func33 (c := Try.f33.body.getD .skip) (by kernel_rfl) (N := 39) rfl (by kernel_rfl) ?_
  intro hbx hbad Q hQ a w hJ
  replace hJ : K ⟨39, h.w, h.bad, []⟩ [(0, .agg #[.slice A n c, .slice B m d])] [] [] h a w := hJ.to (by kernel_rfl) (by kernel_rfl) rfl
  refine rx hJ true 39 [.fix, .f 0 0, .cl 68 #[.agg #[.slice A n c, .slice B m d]] (.int .i64 0), .f 0 0] [] (.new fun b1 => .ok (.code [0, 1, 0, 1, 1, 1]) [.block 0, .seq [1, 1, 1, 1]] [(1, .pointer (some ⟨b1, 0, none⟩)), (2, .slice none 0 0), (3, .int .i64 0), (5, .slice none 0 0), (16, .slice A n c), (17, .int .i64 (n : Int)), (18, .int .i64 0)] [] [(b1, 0, [.slice A n c, .slice B m d])]) (And.intro (fun H sH => hC _ (hf.sees sH)) (trivial)) trivial (fun b1 _ => by kernel_rfl) ?_
  clear hJ a w; intro b1 h2 a w s3 hJ
  replace hJ := hJ.nilrow 9 1
  refine x_loop (fun (k : Nat) a w => ∃ (h4 : Vw) (v : Value), K ⟨39, h.w, h.bad, []⟩ [(1, .pointer (some ⟨b1, 0, none⟩)), (2, .slice none 0 0), (3, .int .i64 0), (16, .slice A n c), (17, .int .i64 (n : Int)), (18, .int .i64 (k : Int)), (5, v)] [.row v 9 1 (strRows (freeE f.pages (f.fields.take k)))] [(b1, 0, [.slice A n c, .slice B m d])] h4 a w ∧ Sees h2 h4 ∧ (k ≤ n)) (fun k => n - k) (0) (by kernel_rfl) ⟨h2, (.slice none 0 0), hJ.to (by kernel_rfl) (by kernel_rfl) rfl, Sees.refl _, Nat.zero_le _⟩ ?_
  clear hJ a w; rintro k a w ⟨h4, v, hJ, s5, hk⟩
  refine rx hJ false 6 [] [] (.ok (.code [0, 1, 0, 0, 1, 0, 1, 1, 1]) [.seq [1, 1, 0, 0, 1, 0, 1, 1, 1]] [(1, .pointer (some ⟨b1, 0, none⟩)), (2, .slice none 0 0), (3, .int .i64 0), (16, .slice A n c), (17, .int .i64 (n : Int)), (18, .int .i64 (k : Int)), (5, v), (19, .bool (decide ((k : Int) < (n : Int))))] [.row v 9 1 (strRows (freeE f.pages (f.fields.take k)))] [(b1, 0, [.slice A n c, .slice B m d])]) trivial trivial (fun _ => by kernel_rfl) ?_
  clear hJ a w; intro a w hJ
  rcases (by omega : k < n ∨ k = n) with hlt | hke
  · obtain ⟨x, hx⟩ : ∃ x, f.fields[k]? = some x := ⟨_, List.getElem?_eq_getElem (by omega)⟩
    obtain ⟨u, hu⟩ : ∃ u, vs[k]? = some u := ⟨_, List.getElem?_eq_getElem (by omega)⟩
    have hrow := fdRows_get hx hu
    obtain ⟨Au, nu, cu, rfl⟩ := (AllArgs.get hs (x := x.src) (by rw [List.getElem?_map, hx]; rfl) hu).slice
    have hsn := freeE_snoc f.pages (f.fields.take k) x
    rw [← take_snoc' _ k x hx] at hsn
    have hOx := fun H q => hO H x.name q
    have hl2 := hfl k
    rw [List.length_take] at hl2
    by_cases g : ofG f.pages x.name < 0
    · rw [if_pos g, if_pos g] at hOx
      rw [if_pos g] at hsn
      refine x_true hJ (t := decide ((k : Int) < (n : Int))) (by kernel_rfl) (decide_eq_true (by omega)) ?_
      refine rx hJ false 6 [] [] (.ok (.ops [0, 0, 0, 1, 1, 0, 0, 1, 0, 1, 1, 1] 0) [.seq [1, 0, 0, 1, 1, 0, 0, 1, 0, 1, 1, 1], .block 1, .seq [1, 1, 1, 0, 0, 1, 0, 1, 1, 1]] [(1, .pointer (some ⟨b1, 0, none⟩)), (2, .slice none 0 0), (3, .int .i64 0), (16, .slice A n c), (17, .int .i64 (n : Int)), (18, .int .i64 (k : Int)), (5, v), (19, .bool (decide ((k : Int) < (n : Int))))] [.row v 9 1 (strRows (freeE f.pages (f.fields.take k)))] [(b1, 0, [.slice A n c, .slice B m d])]) trivial trivial (fun _ => by kernel_rfl) ?_
      clear hJ a w; intro a w hJ
      obtain ⟨b6, o7, rfl, -, c8⟩ := RS.row hr (hrow)
      replace hJ := hJ.fact (c8.sees (s3.trans s5))
      refine rx hJ true 32 [.ix b6 o7 n c k, .f 0 0, .own, .b 0 0, .f 1 1, .b 0 0, .cl 30 #[.slice B m d, .string x.name] (.tuple #[.int .i64 0, .int .i64 5]), .b 0 0, .fix] [] (.new fun b9 => .new fun b10 => .ok (.ops [0, 1, 1, 1, 0, 0, 1, 1, 0, 0, 1, 0, 1, 1, 1] 4) [.block 1, .seq [1, 1, 1, 0, 0, 1, 0, 1, 1, 1]] [(1, .pointer (some ⟨b1, 0, none⟩)), (2, .slice none 0 0), (3, .int .i64 0), (16, .slice (some ⟨b6, o7, none⟩) n c), (17, .int .i64 (n : Int)), (18, .int .i64 (k : Int)), (5, v), (19, .bool (decide ((k : Int) < (n : Int)))), (20, .pointer (some ⟨b6, o7 + k * 9, none⟩)), (21, .agg #[.string x.name, .int .i64 x.kind, .int .i64 x.ty, .int .i64 x.src.op, .int .i64 x.src.k, .int .i64 x.src.n, .string x.src.s, .string x.src.nm, .slice Au nu cu]), (7, .pointer (some ⟨b9, 0, none⟩)), (23, .pointer (some ⟨b1, 1, none⟩)), (24, .slice B m d), (25, .pointer (some ⟨b9, 0, none⟩)), (26, .string x.name), (27, .tuple #[.int .i64 0, .int .i64 5]), (22, .tuple #[.int .i64 0, .int .i64 5]), (28, .int .i64 0), (29, .int .i64 5), (9, .int .i64 5), (30, .int .i64 5), (31, .bool true), (32, v), (33, .pointer (some ⟨b9, 0, none⟩)), (34, .string x.name), (35, .slice (some ⟨b10, 0, none⟩) 1 1)] [.box b9 [.string x.name, .int .i64 x.kind, .int .i64 x.ty, .int .i64 x.src.op, .int .i64 x.src.k, .int .i64 x.src.n, .string x.src.s, .string x.src.nm, .slice Au nu cu], .row v 9 1 (strRows (freeE f.pages (f.fields.take k)))] [(b10, 0, [.string x.name]), (b6, o7 + k * 9, [.string x.name, .int .i64 x.kind, .int .i64 x.ty, .int .i64 x.src.op, .int .i64 x.src.k, .int .i64 x.src.n, .string x.src.s, .string x.src.nm, .slice Au nu cu]), (b1, 0, [.slice (some ⟨b6, o7, none⟩) n c, .slice B m d])]) (And.intro (by first | omega | (simp; omega)) (And.intro (fun H sH => hOx _ ((hf.sees (s3.trans (s5.trans sH)))).pages) (trivial))) trivial (fun b9 b10 _ => by kernel_rfl) ?_
      clear hJ a w; intro b9 b10 h11 a w s12 hJ
      refine rx hJ true 9 [.ap 1 0 (strRows (freeE f.pages (f.fields.take k))) [[.string x.name]]] [(37, .int .i64 (IntKind.i64.wrap ((k : Int) + 1)), .int .i64 ((k : Int) + 1))] (.nv fun v36 => .ok (.out .normal) [] [(1, .pointer (some ⟨b1, 0, none⟩)), (2, .slice none 0 0), (3, .int .i64 0), (16, .slice (some ⟨b6, o7, none⟩) n c), (17, .int .i64 (n : Int)), (19, .bool (decide ((k : Int) < (n : Int)))), (20, .pointer (some ⟨b6, o7 + k * 9, none⟩)), (21, .agg #[.string x.name, .int .i64 x.kind, .int .i64 x.ty, .int .i64 x.src.op, .int .i64 x.src.k, .int .i64 x.src.n, .string x.src.s, .string x.src.nm, .slice Au nu cu]), (7, .pointer (some ⟨b9, 0, none⟩)), (23, .pointer (some ⟨b1, 1, none⟩)), (24, .slice B m d), (25, .pointer (some ⟨b9, 0, none⟩)), (26, .string x.name), (27, .tuple #[.int .i64 0, .int .i64 5]), (22, .tuple #[.int .i64 0, .int .i64 5]), (28, .int .i64 0), (29, .int .i64 5), (9, .int .i64 5), (30, .int .i64 5), (31, .bool true), (32, v), (33, .pointer (some ⟨b9, 0, none⟩)), (34, .string x.name), (35, .slice (some ⟨b10, 0, none⟩) 1 1), (36, .slice (sA v36) (sN v36) (sC v36)), (5, .slice (sA v36) (sN v36) (sC v36)), (37, .int .i64 ((k : Int) + 1)), (18, .int .i64 ((k : Int) + 1))] [.box b9 [.string x.name, .int .i64 x.kind, .int .i64 x.ty, .int .i64 x.src.op, .int .i64 x.src.k, .int .i64 x.src.n, .string x.src.s, .string x.src.nm, .slice Au nu cu], .row (.slice (sA v36) (sN v36) (sC v36)) 9 1 ((strRows (freeE f.pages (f.fields.take k))) ++ [[.string x.name]])] [(b10, 0, [.string x.name]), (b6, o7 + k * 9, [.string x.name, .int .i64 x.kind, .int .i64 x.ty, .int .i64 x.src.op, .int .i64 x.src.k, .int .i64 x.src.n, .string x.src.s, .string x.src.nm, .slice Au nu cu]), (b1, 0, [.slice (some ⟨b6, o7, none⟩) n c, .slice B m d])]) (And.intro (by constructor <;> (simp; omega)) (trivial)) (And.intro (i64_wrap (by omega) (by omega)) (trivial)) (fun v36 _ => by kernel_rfl) ?_
      clear hJ a w; intro v36 h13 a w s14 hJ
      replace hJ := hJ.drop 0
      exact x_round ⟨k + 1, ⟨h13, .slice (sA v36) (sN v36) (sC v36), (hJ.tof [2] (F' := [(b1, 0, [.slice (some ⟨b6, o7, none⟩) n c, .slice B m d])]) (by kernel_rfl)).to (by kernel_rfl) (by rw [hsn]; simp [strRows]) rfl, (s5.trans (s12.trans s14)), by omega⟩, by omega⟩
    · skip
      rw [if_neg g, if_neg g] at hOx
      rw [if_neg g, List.append_nil] at hsn
      refine x_true hJ (t := decide ((k : Int) < (n : Int))) (by kernel_rfl) (decide_eq_true (by omega)) ?_
      refine rx hJ false 6 [] [] (.ok (.ops [0, 0, 0, 1, 1, 0, 0, 1, 0, 1, 1, 1] 0) [.seq [1, 0, 0, 1, 1, 0, 0, 1, 0, 1, 1, 1], .block 1, .seq [1, 1, 1, 0, 0, 1, 0, 1, 1, 1]] [(1, .pointer (some ⟨b1, 0, none⟩)), (2, .slice none 0 0), (3, .int .i64 0), (16, .slice A n c), (17, .int .i64 (n : Int)), (18, .int .i64 (k : Int)), (5, v), (19, .bool (decide ((k : Int) < (n : Int))))] [.row v 9 1 (strRows (freeE f.pages (f.fields.take k)))] [(b1, 0, [.slice A n c, .slice B m d])]) trivial trivial (fun _ => by kernel_rfl) ?_
      clear hJ a w; intro a w hJ
      obtain ⟨b15, o16, rfl, -, c17⟩ := RS.row hr (hrow)
      replace hJ := hJ.fact (c17.sees (s3.trans s5))
      refine rx hJ false 34 [.ix b15 o16 n c k, .f 0 0, .own, .b 0 0, .f 1 1, .b 0 0, .cl 30 #[.slice B m d, .string x.name] (.tuple #[.int .i64 (ofG f.pages x.name), .int .i64 0])] [(37, .int .i64 (IntKind.i64.wrap ((k : Int) + 1)), .int .i64 ((k : Int) + 1))] (.new fun b18 => .ok (.out .normal) [] [(1, .pointer (some ⟨b1, 0, none⟩)), (2, .slice none 0 0), (3, .int .i64 0), (16, .slice (some ⟨b15, o16, none⟩) n c), (17, .int .i64 (n : Int)), (5, v), (19, .bool (decide ((k : Int) < (n : Int)))), (20, .pointer (some ⟨b15, o16 + k * 9, none⟩)), (21, .agg #[.string x.name, .int .i64 x.kind, .int .i64 x.ty, .int .i64 x.src.op, .int .i64 x.src.k, .int .i64 x.src.n, .string x.src.s, .string x.src.nm, .slice Au nu cu]), (7, .pointer (some ⟨b18, 0, none⟩)), (23, .pointer (some ⟨b1, 1, none⟩)), (24, .slice B m d), (25, .pointer (some ⟨b18, 0, none⟩)), (26, .string x.name), (27, .tuple #[.int .i64 (ofG f.pages x.name), .int .i64 0]), (22, .tuple #[.int .i64 (ofG f.pages x.name), .int .i64 0]), (28, .int .i64 (ofG f.pages x.name)), (29, .int .i64 0), (9, .int .i64 0), (30, .int .i64 0), (31, .bool false), (37, .int .i64 ((k : Int) + 1)), (18, .int .i64 ((k : Int) + 1))] [.box b18 [.string x.name, .int .i64 x.kind, .int .i64 x.ty, .int .i64 x.src.op, .int .i64 x.src.k, .int .i64 x.src.n, .string x.src.s, .string x.src.nm, .slice Au nu cu], .row v 9 1 (strRows (freeE f.pages (f.fields.take k)))] [(b15, o16 + k * 9, [.string x.name, .int .i64 x.kind, .int .i64 x.ty, .int .i64 x.src.op, .int .i64 x.src.k, .int .i64 x.src.n, .string x.src.s, .string x.src.nm, .slice Au nu cu]), (b1, 0, [.slice (some ⟨b15, o16, none⟩) n c, .slice B m d])]) (And.intro (by first | omega | (simp; omega)) (And.intro (fun H sH => hOx _ ((hf.sees (s3.trans (s5.trans sH)))).pages) (trivial))) (And.intro (i64_wrap (by omega) (by omega)) (trivial)) (fun b18 _ => by kernel_rfl) ?_
      clear hJ a w; intro b18 a w hJ
      replace hJ := hJ.drop 0
      exact x_round ⟨k + 1, ⟨h4, v, (hJ.tof [1] (F' := [(b1, 0, [.slice (some ⟨b15, o16, none⟩) n c, .slice B m d])]) (by kernel_rfl)).to (by kernel_rfl) (by rw [hsn]; rfl) rfl, s5, by omega⟩, by omega⟩
  · skip
    have hta : f.fields.take k = f.fields := by rw [hke, hn, List.take_length]
    rw [hta] at hJ
    have hrl : (strRows (freeE f.pages f.fields)).length = (freeE f.pages f.fields).length := List.length_map _
    obtain ⟨Ar, cr, hE_v, hc_v, hm_v⟩ := hJ.form (v := v) (e := 9) (k := 1) (l := strRows (freeE f.pages f.fields)) 0 (by kernel_rfl)
    rw [show (strRows (freeE f.pages f.fields)).length = (freeE f.pages f.fields).length from by first | omega | (simp; done) | (simp; omega)] at hE_v hc_v
    rw [hE_v] at hJ
    refine x_false hJ (t := decide ((k : Int) < (n : Int))) (by kernel_rfl) (decide_eq_false (by omega)) ?_
    refine rx hJ false 2 [] [] (.ok (.out (.exit 0)) [] [(1, .pointer (some ⟨b1, 0, none⟩)), (2, .slice none 0 0), (3, .int .i64 0), (16, .slice A n c), (17, .int .i64 (n : Int)), (18, .int .i64 (k : Int)), (5, .slice Ar ((freeE f.pages f.fields).length) cr), (19, .bool (decide ((k : Int) < (n : Int))))] [.row (.slice Ar ((freeE f.pages f.fields).length) cr) 9 1 (strRows (freeE f.pages f.fields))] [(b1, 0, [.slice A n c, .slice B m d])]) trivial trivial (fun _ => by kernel_rfl) ?_
    clear hJ a w; intro a w hJ
    refine x_leave rfl ?_
    refine rx hJ false 10 [] [] (.ok (.out .ret) [] [(2, .slice Ar ((freeE f.pages f.fields).length) cr), (3, .int .i64 0)] [.row (.slice Ar ((freeE f.pages f.fields).length) cr) 9 1 (strRows (freeE f.pages f.fields))] [(b1, 0, [.slice A n c, .slice B m d])]) trivial trivial (fun _ => by kernel_rfl) ?_
    clear hJ a w; intro a w hJ
    have fr := hJ.j.rowOut0 (v := .slice Ar ((freeE f.pages f.fields).length) cr) (e := 9) (k := 1) (l := strRows (freeE f.pages f.fields)) 0 (by kernel_rfl) rfl
    refine x_end (hQ [.slice Ar ((freeE f.pages f.fields).length) cr, .int .i64 0] _ [] hJ (.rtmp hJ.j (by kernel_rfl) (.rtmp hJ.j (by kernel_rfl) .nil)) (no_own _) rfl ?_).1
    exact ⟨Ar, cr, rfl, fr⟩

def inpI (fs : List Fd) : Nat → List Int
  | 0 => []
  | k + 1 => inpI fs k ++ (match fs[k]? with | some f => if f.kind = 1 then [(k : Int)] else [] | none => [])
theorem inpI_step {fs : List Fd} {k : Nat} {f : Fd} (h : fs[k]? = some f) : inpI fs (k + 1) = inpI fs k ++ if f.kind = 1 then [(k : Int)] else [] := by rw [inpI, h]
theorem inpI_len (fs : List Fd) : ∀ k, (inpI fs k).length ≤ k
  | 0 => Nat.le_refl _
  | k + 1 => by
    have := inpI_len fs k
    rw [inpI, List.length_append]
    split
    · split <;> simp <;> omega
    · simp; omega
theorem rk_snoc (l : List Int) (x : Int) : rkRows (l ++ [x]) = rkRows l ++ [[.int .i64 x]] := by simp [rkRows]

set_option maxHeartbeats 4000000 in
set_option maxRecDepth 100000 in
theorem shInputs_any (f : Fm) (ρ : List Int) (lv : Nat → Nat) (A : Option Addr) (n c : Nat) (B : Option Addr) (m d : Nat) (h : Vw) (hok : OkFm f ρ lv) (hf : IsForm h (.slice A n c) (.slice B m d) f) (hn : n = f.fields.length) :
    C0 Try.prog 34 #[.agg #[.slice A n c, .slice B m d]] h (fun r h' => ∃ A c, r = .tuple #[.slice A (inpI f.fields n).length c, .int .i64 0] ∧ RS h' 1 (.slice A (inpI f.fields n).length c) (rkRows (inpI f.fields n))) := by
  have hC := fun H q => shCheck_any f ρ lv A n c B m d H hok q hn
  have few := hok.fields.few
  obtain ⟨vs, A', c', e, -, -, hr, hs, hvl, hsl⟩ := fds_open hf.fields
  simp only [Value.slice.injEq] at e
  obtain ⟨rfl, -, rfl⟩ := e
  rw [← hn] at hr hvl
  have hfl := fun k => inpI_len f.fields k
  refine x_con Try.func34 (c := Try.f34.body.getD .skip) (by kernel_rfl) (N := 30) rfl (by kernel_rfl) ?_
  intro hbx hbad Q hQ a w hJ
  replace hJ : K ⟨30, h.w, h.bad, []⟩ [(0, .agg #[.slice A n c, .slice B m d])] [] [] h a w := hJ.to (by kernel_rfl) (by kernel_rfl) rfl
  refine rx hJ true 39 [.fix, .f 0 0, .cl 68 #[.agg #[.slice A n c, .slice B m d]] (.int .i64 0), .f 0 0] [] (.new fun b1 => .ok (.code [0, 1, 0, 1, 1, 1]) [.block 0, .seq [1, 1, 1, 1]] [(2, .slice none 0 0), (3, .int .i64 0), (5, .slice none 0 0), (14, .slice A n c), (15, .int .i64 (n : Int)), (16, .int .i64 0)] [] [(b1, 0, [.slice A n c, .slice B m d])]) (And.intro (fun H sH => hC _ (hf.sees sH)) (trivial)) trivial (fun b1 _ => by kernel_rfl) ?_
  clear hJ a w; intro b1 h2 a w s3 hJ
  replace hJ := hJ.nilrow 3 1
  refine x_loop (fun (k : Nat) a w => ∃ (h4 : Vw) (v : Value), K ⟨30, h.w, h.bad, []⟩ [(2, .slice none 0 0), (3, .int .i64 0), (14, .slice A n c), (15, .int .i64 (n : Int)), (16, .int .i64 (k : Int)), (5, v)] [.row v 3 1 (rkRows (inpI f.fields k))] [(b1, 0, [.slice A n c, .slice B m d])] h4 a w ∧ Sees h2 h4 ∧ (k ≤ n)) (fun k => n - k) (0) (by kernel_rfl) ⟨h2, (.slice none 0 0), hJ.to (by kernel_rfl) (by kernel_rfl) rfl, Sees.refl _, Nat.zero_le _⟩ ?_
  clear hJ a w; rintro k a w ⟨h4, v, hJ, s5, hk⟩
  refine rx hJ false 6 [] [] (.ok (.code [0, 1, 0, 0, 1, 0, 1, 1, 1]) [.seq [1, 1, 0, 0, 1, 0, 1, 1, 1]] [(2, .slice none 0 0), (3, .int .i64 0), (14, .slice A n c), (15, .int .i64 (n : Int)), (16, .int .i64 (k : Int)), (5, v), (17, .bool (decide ((k : Int) < (n : Int))))] [.row v 3 1 (rkRows (inpI f.fields k))] [(b1, 0, [.slice A n c, .slice B m d])]) trivial trivial (fun _ => by kernel_rfl) ?_
  clear hJ a w; intro a w hJ
  rcases (by omega : k < n ∨ k = n) with hlt | hke
  · obtain ⟨x, hx⟩ : ∃ x, f.fields[k]? = some x := ⟨_, List.getElem?_eq_getElem (by omega)⟩
    obtain ⟨u, hu⟩ : ∃ u, vs[k]? = some u := ⟨_, List.getElem?_eq_getElem (by omega)⟩
    have hrow := fdRows_get hx hu
    obtain ⟨Au, nu, cu, rfl⟩ := (AllArgs.get hs (x := x.src) (by rw [List.getElem?_map, hx]; rfl) hu).slice
    have hsn := inpI_step hx
    have hl2 := hfl k
    by_cases g : x.kind = 1
    · rw [if_pos g] at hsn
      refine x_true hJ (t := decide ((k : Int) < (n : Int))) (by kernel_rfl) (decide_eq_true (by omega)) ?_
      refine rx hJ false 7 [] [] (.ok (.ops [0, 0, 0, 1, 1, 0, 0, 1, 0, 1, 1, 1] 1) [.seq [1, 0, 0, 1, 1, 0, 0, 1, 0, 1, 1, 1], .block 1, .seq [1, 1, 1, 0, 0, 1, 0, 1, 1, 1]] [(2, .slice none 0 0), (3, .int .i64 0), (14, .slice A n c), (15, .int .i64 (n : Int)), (16, .int .i64 (k : Int)), (5, v), (17, .bool (decide ((k : Int) < (n : Int)))), (18, .int .i64 (k : Int))] [.row v 3 1 (rkRows (inpI f.fields k))] [(b1, 0, [.slice A n c, .slice B m d])]) trivial trivial (fun _ => by kernel_rfl) ?_
      clear hJ a w; intro a w hJ
      obtain ⟨b6, o7, rfl, -, c8⟩ := RS.row hr (hrow)
      replace hJ := hJ.fact (c8.sees (s3.trans s5))
      refine rx hJ true 19 [.ix b6 o7 n c k, .f 0 0, .own, .b 0 0, .b 0 1, .fix] [(23, .bool (x.kind == 1), .bool true)] (.new fun b9 => .new fun b10 => .ok (.ops [0, 1, 1, 0, 0, 1, 1, 0, 0, 1, 0, 1, 1, 1] 3) [.block 1, .seq [1, 1, 1, 0, 0, 1, 0, 1, 1, 1]] [(2, .slice none 0 0), (3, .int .i64 0), (14, .slice (some ⟨b6, o7, none⟩) n c), (15, .int .i64 (n : Int)), (16, .int .i64 (k : Int)), (5, v), (17, .bool (decide ((k : Int) < (n : Int)))), (18, .int .i64 (k : Int)), (19, .pointer (some ⟨b6, o7 + k * 9, none⟩)), (20, .agg #[.string x.name, .int .i64 x.kind, .int .i64 x.ty, .int .i64 x.src.op, .int .i64 x.src.k, .int .i64 x.src.n, .string x.src.s, .string x.src.nm, .slice Au nu cu]), (7, .pointer (some ⟨b9, 0, none⟩)), (6, .int .i64 (k : Int)), (21, .pointer (some ⟨b9, 1, none⟩)), (22, .int .i64 x.kind), (23, .bool true), (24, v), (25, .int .i64 (k : Int)), (26, .slice (some ⟨b10, 0, none⟩) 1 1)] [.box b9 [.string x.name, .int .i64 x.kind, .int .i64 x.ty, .int .i64 x.src.op, .int .i64 x.src.k, .int .i64 x.src.n, .string x.src.s, .string x.src.nm, .slice Au nu cu], .row v 3 1 (rkRows (inpI f.fields k))] [(b10, 0, [.int .i64 (k : Int)]), (b6, o7 + k * 9, [.string x.name, .int .i64 x.kind, .int .i64 x.ty, .int .i64 x.src.op, .int .i64 x.src.k, .int .i64 x.src.n, .string x.src.s, .string x.src.nm, .slice Au nu cu]), (b1, 0, [.slice (some ⟨b6, o7, none⟩) n c, .slice B m d])]) (And.intro (by first | omega | (simp; omega)) (trivial)) (And.intro (congrArg Value.bool (beq_iff_eq.2 g)) (trivial)) (fun b9 b10 _ => by kernel_rfl) ?_
      clear hJ a w; intro b9 b10 h11 a w s12 hJ
      refine rx hJ true 9 [.ap 1 0 (rkRows (inpI f.fields k)) [[.int .i64 (k : Int)]]] [(28, .int .i64 (IntKind.i64.wrap ((k : Int) + 1)), .int .i64 ((k : Int) + 1))] (.nv fun v27 => .ok (.out .normal) [] [(2, .slice none 0 0), (3, .int .i64 0), (14, .slice (some ⟨b6, o7, none⟩) n c), (15, .int .i64 (n : Int)), (17, .bool (decide ((k : Int) < (n : Int)))), (18, .int .i64 (k : Int)), (19, .pointer (some ⟨b6, o7 + k * 9, none⟩)), (20, .agg #[.string x.name, .int .i64 x.kind, .int .i64 x.ty, .int .i64 x.src.op, .int .i64 x.src.k, .int .i64 x.src.n, .string x.src.s, .string x.src.nm, .slice Au nu cu]), (7, .pointer (some ⟨b9, 0, none⟩)), (6, .int .i64 (k : Int)), (21, .pointer (some ⟨b9, 1, none⟩)), (22, .int .i64 x.kind), (23, .bool true), (24, v), (25, .int .i64 (k : Int)), (26, .slice (some ⟨b10, 0, none⟩) 1 1), (27, .slice (sA v27) (sN v27) (sC v27)), (5, .slice (sA v27) (sN v27) (sC v27)), (28, .int .i64 ((k : Int) + 1)), (16, .int .i64 ((k : Int) + 1))] [.box b9 [.string x.name, .int .i64 x.kind, .int .i64 x.ty, .int .i64 x.src.op, .int .i64 x.src.k, .int .i64 x.src.n, .string x.src.s, .string x.src.nm, .slice Au nu cu], .row (.slice (sA v27) (sN v27) (sC v27)) 3 1 ((rkRows (inpI f.fields k)) ++ [[.int .i64 (k : Int)]])] [(b10, 0, [.int .i64 (k : Int)]), (b6, o7 + k * 9, [.string x.name, .int .i64 x.kind, .int .i64 x.ty, .int .i64 x.src.op, .int .i64 x.src.k, .int .i64 x.src.n, .string x.src.s, .string x.src.nm, .slice Au nu cu]), (b1, 0, [.slice (some ⟨b6, o7, none⟩) n c, .slice B m d])]) (And.intro (by constructor <;> (simp; omega)) (trivial)) (And.intro (i64_wrap (by omega) (by omega)) (trivial)) (fun v27 _ => by kernel_rfl) ?_
      clear hJ a w; intro v27 h13 a w s14 hJ
      replace hJ := hJ.drop 0
      exact x_round ⟨k + 1, ⟨h13, .slice (sA v27) (sN v27) (sC v27), (hJ.tof [2] (F' := [(b1, 0, [.slice (some ⟨b6, o7, none⟩) n c, .slice B m d])]) (by kernel_rfl)).to (by kernel_rfl) (by rw [hsn, rk_snoc]; rfl) rfl, (s5.trans (s12.trans s14)), by omega⟩, by omega⟩
    · skip
      rw [if_neg g, List.append_nil] at hsn
      refine x_true hJ (t := decide ((k : Int) < (n : Int))) (by kernel_rfl) (decide_eq_true (by omega)) ?_
      refine rx hJ false 7 [] [] (.ok (.ops [0, 0, 0, 1, 1, 0, 0, 1, 0, 1, 1, 1] 1) [.seq [1, 0, 0, 1, 1, 0, 0, 1, 0, 1, 1, 1], .block 1, .seq [1, 1, 1, 0, 0, 1, 0, 1, 1, 1]] [(2, .slice none 0 0), (3, .int .i64 0), (14, .slice A n c), (15, .int .i64 (n : Int)), (16, .int .i64 (k : Int)), (5, v), (17, .bool (decide ((k : Int) < (n : Int)))), (18, .int .i64 (k : Int))] [.row v 3 1 (rkRows (inpI f.fields k))] [(b1, 0, [.slice A n c, .slice B m d])]) trivial trivial (fun _ => by kernel_rfl) ?_
      clear hJ a w; intro a w hJ
      obtain ⟨b15, o16, rfl, -, c17⟩ := RS.row hr (hrow)
      replace hJ := hJ.fact (c17.sees (s3.trans s5))
      refine rx hJ false 22 [.ix b15 o16 n c k, .f 0 0, .own, .b 0 0, .b 0 1] [(23, .bool (x.kind == 1), .bool false), (28, .int .i64 (IntKind.i64.wrap ((k : Int) + 1)), .int .i64 ((k : Int) + 1))] (.new fun b18 => .ok (.out .normal) [] [(2, .slice none 0 0), (3, .int .i64 0), (14, .slice (some ⟨b15, o16, none⟩) n c), (15, .int .i64 (n : Int)), (5, v), (17, .bool (decide ((k : Int) < (n : Int)))), (18, .int .i64 (k : Int)), (19, .pointer (some ⟨b15, o16 + k * 9, none⟩)), (20, .agg #[.string x.name, .int .i64 x.kind, .int .i64 x.ty, .int .i64 x.src.op, .int .i64 x.src.k, .int .i64 x.src.n, .string x.src.s, .string x.src.nm, .slice Au nu cu]), (7, .pointer (some ⟨b18, 0, none⟩)), (6, .int .i64 (k : Int)), (21, .pointer (some ⟨b18, 1, none⟩)), (22, .int .i64 x.kind), (23, .bool false), (28, .int .i64 ((k : Int) + 1)), (16, .int .i64 ((k : Int) + 1))] [.box b18 [.string x.name, .int .i64 x.kind, .int .i64 x.ty, .int .i64 x.src.op, .int .i64 x.src.k, .int .i64 x.src.n, .string x.src.s, .string x.src.nm, .slice Au nu cu], .row v 3 1 (rkRows (inpI f.fields k))] [(b15, o16 + k * 9, [.string x.name, .int .i64 x.kind, .int .i64 x.ty, .int .i64 x.src.op, .int .i64 x.src.k, .int .i64 x.src.n, .string x.src.s, .string x.src.nm, .slice Au nu cu]), (b1, 0, [.slice (some ⟨b15, o16, none⟩) n c, .slice B m d])]) (And.intro (by first | omega | (simp; omega)) (trivial)) (And.intro (congrArg Value.bool (beq_eq_false_iff_ne.2 g)) (And.intro (i64_wrap (by omega) (by omega)) (trivial))) (fun b18 _ => by kernel_rfl) ?_
      clear hJ a w; intro b18 a w hJ
      replace hJ := hJ.drop 0
      exact x_round ⟨k + 1, ⟨h4, v, (hJ.tof [1] (F' := [(b1, 0, [.slice (some ⟨b15, o16, none⟩) n c, .slice B m d])]) (by kernel_rfl)).to (by kernel_rfl) (by rw [hsn]; rfl) rfl, s5, by omega⟩, by omega⟩
  · skip
    have ek : inpI f.fields k = inpI f.fields n := by rw [hke]
    rw [ek] at hJ
    have hrl : (rkRows (inpI f.fields n)).length = (inpI f.fields n).length := List.length_map _
    obtain ⟨Ar, cr, hE_v, hc_v, hm_v⟩ := hJ.form (v := v) (e := 3) (k := 1) (l := rkRows (inpI f.fields n)) 0 (by kernel_rfl)
    rw [show (rkRows (inpI f.fields n)).length = (inpI f.fields n).length from by first | omega | (simp; done) | (simp; omega)] at hE_v hc_v
    rw [hE_v] at hJ
    refine x_false hJ (t := decide ((k : Int) < (n : Int))) (by kernel_rfl) (decide_eq_false (by omega)) ?_
    refine rx hJ false 2 [] [] (.ok (.out (.exit 0)) [] [(2, .slice none 0 0), (3, .int .i64 0), (14, .slice A n c), (15, .int .i64 (n : Int)), (16, .int .i64 (k : Int)), (5, .slice Ar ((inpI f.fields n).length) cr), (17, .bool (decide ((k : Int) < (n : Int))))] [.row (.slice Ar ((inpI f.fields n).length) cr) 3 1 (rkRows (inpI f.fields n))] [(b1, 0, [.slice A n c, .slice B m d])]) trivial trivial (fun _ => by kernel_rfl) ?_
    clear hJ a w; intro a w hJ
    refine x_leave rfl ?_
    refine rx hJ false 10 [] [] (.ok (.out .ret) [] [(2, .slice Ar ((inpI f.fields n).length) cr), (3, .int .i64 0)] [.row (.slice Ar ((inpI f.fields n).length) cr) 3 1 (rkRows (inpI f.fields n))] [(b1, 0, [.slice A n c, .slice B m d])]) trivial trivial (fun _ => by kernel_rfl) ?_
    clear hJ a w; intro a w hJ
    have fr := hJ.j.rowOut0 (v := .slice Ar ((inpI f.fields n).length) cr) (e := 3) (k := 1) (l := rkRows (inpI f.fields n)) 0 (by kernel_rfl) rfl
    refine x_end (hQ [.slice Ar ((inpI f.fields n).length) cr, .int .i64 0] _ [] hJ (.rtmp hJ.j (by kernel_rfl) (.rtmp hJ.j (by kernel_rfl) .nil)) (no_own _) rfl ?_).1
    exact ⟨Ar, cr, rfl, fr⟩

set_option maxRecDepth 100000 in
theorem idxN_any (l : List Int) (v : Value) (s : Int) (h : Vw) (hr : RS h 1 v (rkRows l)) (hl : l.length ≤ 1000000) : C0 Try.prog 69 #[v, .int .i64 s] h (fun r _ => r = .int .i64 (fidx (fun y : Int => s == y) l)) := by
  obtain ⟨A, cap, rfl, -, -, -⟩ := hr.form
  rw [List.length_map] at *
  generalize hL : l.length = len at *
  refine x_con Try.func69 (c := Try.f69.body.getD .skip) (by kernel_rfl) (N := 19) rfl (by kernel_rfl) ?_
  intro hbx hbad Q hQ a w hJ
  replace hJ : K ⟨19, h.w, h.bad, []⟩ [(0, .slice A len cap), (1, .int .i64 s)] [] [] h a w := hJ.to (by kernel_rfl) (by kernel_rfl) rfl
  refine rx hJ false 14 [] [] (.ok (.code [0, 1, 0, 1]) [.block 0, .seq [1, 1]] [(0, .slice A len cap), (1, .int .i64 s), (4, .int .i64 0), (7, .int .i64 (len : Int)), (8, .int .i64 0)] [] []) trivial trivial (fun _ => by kernel_rfl) ?_
  clear hJ a w; intro a w hJ
  refine x_loop (fun (k : Nat) a w => ∃ (h1 : Vw) , K ⟨19, h.w, h.bad, []⟩ [(0, .slice A len cap), (1, .int .i64 s), (7, .int .i64 (len : Int)), (8, .int .i64 (k : Int))] [] [] h1 a w ∧ Sees h h1 ∧ (k ≤ len) ∧ (∀ y ∈ l.take k, (s == y) = false)) (fun k => len - k) (0) (by kernel_rfl) ⟨h, hJ.to (by kernel_rfl) (by kernel_rfl) rfl, Sees.refl _, Nat.zero_le _, fun y hy => by simp at hy⟩ ?_
  clear hJ a w; rintro k a w ⟨h1, hJ, s2, hk, hn⟩
  refine rx hJ false 6 [] [] (.ok (.code [0, 1, 0, 0, 1, 0, 1]) [.seq [1, 1, 0, 0, 1, 0, 1]] [(0, .slice A len cap), (1, .int .i64 s), (7, .int .i64 (len : Int)), (8, .int .i64 (k : Int)), (9, .bool (decide ((k : Int) < (len : Int))))] [] []) trivial trivial (fun _ => by kernel_rfl) ?_
  clear hJ a w; intro a w hJ
  rcases (by omega : k < len ∨ k = len) with hlt | hke
  · obtain ⟨f, hfk⟩ : ∃ f, l[k]? = some f := ⟨_, List.getElem?_eq_getElem (by omega)⟩
    have hrow := rk_row hfk
    refine x_true hJ (t := decide ((k : Int) < (len : Int))) (by kernel_rfl) (decide_eq_true (by omega)) ?_
    refine rx hJ false 15 [] [] (.ok (.ops [0, 1, 0, 0, 1, 1, 0, 0, 1, 0, 1] 3) [.seq [1, 1, 0, 0, 1, 1, 0, 0, 1, 0, 1], .block 1, .seq [1, 1, 1, 0, 0, 1, 0, 1]] [(0, .slice A len cap), (1, .int .i64 s), (7, .int .i64 (len : Int)), (8, .int .i64 (k : Int)), (9, .bool (decide ((k : Int) < (len : Int)))), (10, .int .i64 (k : Int)), (5, .int .i64 (k : Int)), (11, .int .i64 s), (12, .slice A len cap), (13, .int .i64 (k : Int))] [] []) trivial trivial (fun _ => by kernel_rfl) ?_
    clear hJ a w; intro a w hJ
    obtain ⟨b3, o4, rfl, -, c5⟩ := RS.row hr (hrow)
    replace hJ := hJ.fact (c5.sees s2)
    refine rx hJ false 5 [.ix b3 o4 len cap k, .f 0 0] [] (.ok (.code [1, 1, 0, 0, 1, 1, 0, 0, 1, 0, 1]) [.block 1, .seq [1, 1, 1, 0, 0, 1, 0, 1]] [(0, .slice (some ⟨b3, o4, none⟩) len cap), (1, .int .i64 s), (7, .int .i64 (len : Int)), (8, .int .i64 (k : Int)), (9, .bool (decide ((k : Int) < (len : Int)))), (10, .int .i64 (k : Int)), (5, .int .i64 (k : Int)), (11, .int .i64 s), (12, .slice (some ⟨b3, o4, none⟩) len cap), (13, .int .i64 (k : Int)), (14, .pointer (some ⟨b3, o4 + k * 1, none⟩)), (15, .int .i64 f), (16, .bool (s == f))] [] [(b3, o4 + k * 1, [.int .i64 f])]) (And.intro (by first | omega | (simp; omega)) (trivial)) trivial (fun _ => by kernel_rfl) ?_
    clear hJ a w; intro a w hJ
    rcases Bool.eq_false_or_eq_true (s == f) with hq | hq
    · refine x_true hJ (t := s == f) (by kernel_rfl) (hq) ?_
      refine rx hJ false 9 [] [] (.ok (.out .ret) [] [(0, .slice (some ⟨b3, o4, none⟩) len cap), (1, .int .i64 s), (7, .int .i64 (len : Int)), (8, .int .i64 (k : Int)), (9, .bool (decide ((k : Int) < (len : Int)))), (10, .int .i64 (k : Int)), (5, .int .i64 (k : Int)), (11, .int .i64 s), (12, .slice (some ⟨b3, o4, none⟩) len cap), (13, .int .i64 (k : Int)), (14, .pointer (some ⟨b3, o4 + k * 1, none⟩)), (15, .int .i64 f), (16, .bool (s == f)), (17, .int .i64 (k : Int)), (4, .int .i64 (k : Int))] [] [(b3, o4 + k * 1, [.int .i64 f])]) trivial trivial (fun _ => by kernel_rfl) ?_
      clear hJ a w; intro a w hJ
      refine x_leave rfl ?_
      refine rx hJ false 2 [] [] (.ok (.out .ret) [] [(4, .int .i64 (k : Int))] [] [(b3, o4 + k * 1, [.int .i64 f])]) trivial trivial (fun _ => by kernel_rfl) ?_
      clear hJ a w; intro a w hJ
      refine x_end (hQ [.int .i64 (k : Int)] _ [] hJ (.rtmp hJ.j (by kernel_rfl) .nil) (no_own _) rfl ?_).1
      exact congrArg (Value.int .i64) (fidx_found _ l k f hn hfk hq).symm
    · skip
      refine x_false hJ (t := s == f) (by kernel_rfl) (hq) ?_
      refine rx hJ false 7 [] [(18, .int .i64 (IntKind.i64.wrap ((k : Int) + 1)), .int .i64 ((k : Int) + 1))] (.ok (.out .normal) [] [(0, .slice (some ⟨b3, o4, none⟩) len cap), (1, .int .i64 s), (7, .int .i64 (len : Int)), (9, .bool (decide ((k : Int) < (len : Int)))), (10, .int .i64 (k : Int)), (5, .int .i64 (k : Int)), (11, .int .i64 s), (12, .slice (some ⟨b3, o4, none⟩) len cap), (13, .int .i64 (k : Int)), (14, .pointer (some ⟨b3, o4 + k * 1, none⟩)), (15, .int .i64 f), (16, .bool (s == f)), (18, .int .i64 ((k : Int) + 1)), (8, .int .i64 ((k : Int) + 1))] [] [(b3, o4 + k * 1, [.int .i64 f])]) trivial (And.intro (i64_wrap (by omega) (by omega)) (trivial)) (fun _ => by kernel_rfl) ?_
      clear hJ a w; intro a w hJ
      exact x_round ⟨k + 1, ⟨h1, (hJ.tof [] (F' := []) (by kernel_rfl)).to (by kernel_rfl) (by kernel_rfl) rfl, s2, by omega, (by rw [take_snoc' l k f hfk]; exact fun y hy => (List.mem_append.1 hy).elim (hn y) (fun e => by rw [List.mem_singleton.1 e]; exact hq))⟩, by omega⟩
  · skip
    have htk : l.take k = l := by rw [hke, ← hL, List.take_length]
    rw [htk] at hn
    refine x_false hJ (t := decide ((k : Int) < (len : Int))) (by kernel_rfl) (decide_eq_false (by omega)) ?_
    refine rx hJ false 2 [] [] (.ok (.out (.exit 0)) [] [(0, .slice A len cap), (1, .int .i64 s), (7, .int .i64 (len : Int)), (8, .int .i64 (k : Int)), (9, .bool (decide ((k : Int) < (len : Int))))] [] []) trivial trivial (fun _ => by kernel_rfl) ?_
    clear hJ a w; intro a w hJ
    refine x_leave rfl ?_
    refine rx hJ false 8 [] [] (.ok (.out .ret) [] [(4, .int .i64 (-1))] [] []) trivial trivial (fun _ => by kernel_rfl) ?_
    clear hJ a w; intro a w hJ
    refine x_end (hQ [.int .i64 (-1)] _ [] hJ (.rtmp hJ.j (by kernel_rfl) .nil) (no_own _) rfl ?_).1
    exact congrArg (Value.int .i64) (fidx_none _ l hn).symm
theorem contN_any (l : List Int) (v : Value) (s : Int) (h : Vw) (hr : RS h 1 v (rkRows l)) (hl : l.length ≤ 1000000) : C0 Try.prog 35 #[v, .int .i64 s] h (fun r _ => r = .bool (decide (0 ≤ fidx (fun y : Int => s == y) l))) := by
  have hi := fun H q => idxN_any l v s H q hl
  obtain ⟨A, cap, rfl, -, -, -⟩ := hr.form
  rw [List.length_map] at *
  generalize fidx (fun y : Int => s == y) l = p at *
  refine x_con Try.func35 (c := Try.f35.body.getD .skip) (by kernel_rfl) (N := 9) rfl (by kernel_rfl) ?_
  intro hbx hbad Q hQ a w hJ
  replace hJ : K ⟨9, h.w, h.bad, []⟩ [(0, .slice A l.length cap), (1, .int .i64 s)] [] [] h a w := hJ.to (by kernel_rfl) (by kernel_rfl) rfl
  refine rx hJ false 15 [.cl 69 #[.slice A l.length cap, .int .i64 s] (.int .i64 p)] [] (.ok (.out .ret) [] [(4, .bool (decide (p ≥ 0)))] [] []) (And.intro (fun H sH => hi _ (hr.sees sH)) (trivial)) trivial (fun _ => by kernel_rfl) ?_
  clear hJ a w; intro a w hJ
  refine x_end (hQ [.bool (decide (p ≥ 0))] _ [] hJ (.rtmp hJ.j (by kernel_rfl) .nil) (no_own _) rfl ?_).1
  exact rfl

end Go.Proofs.Ytgjndkphfabnnaa

/-
  The contracts of value.Check at any value that may be, of eval's facts, of eval.Of.
-/
import Derived.Test.YtgjndkphfabnnaaEvE
namespace Go.Proofs.Ytgjndkphfabnnaa
open Go.RowKit

set_option maxRecDepth 100000 in
theorem check_pending (h : Vw) : C0 Try.prog 106 #[.agg #[.int .i64 4, .int .i64 0, .string ⟨#[]⟩]] h (fun v _ => v = .int .i64 0) := by
  refine x_con Try.func106 (c := Try.f106.body.getD .skip) (by kernel_rfl) (N := 50) rfl (by kernel_rfl) ?_
  intro hbx hbad Q hQ a w hJ
  replace hJ : K ⟨50, h.w, h.bad, []⟩ [(0, .agg #[.int .i64 4, .int .i64 0, .string ⟨#[]⟩])] [] [] h a w := hJ.to (by kernel_rfl) (by kernel_rfl) rfl
  refine rx hJ false 70 [.own, .b 0 0, .b 0 1, .b 0 2] [] (.new fun b1 => .ok (.out .ret) [] [(2, .int .i64 0)] [.box b1 [.int .i64 4, .int .i64 0, .string ⟨#[]⟩]] []) trivial trivial (fun b1 _ => by kernel_rfl) ?_
  clear hJ a w; intro b1 a w hJ
  refine x_end (hQ [.int .i64 0] _ [] hJ (.rtmp hJ.j (by kernel_rfl) .nil) (no_own _) rfl ?_).1
  exact rfl
set_option maxRecDepth 100000 in
theorem check_fault (n : Int) (h : Vw) (h0 : 1 ≤ n) (h1 : n ≤ 15) : C0 Try.prog 106 #[.agg #[.int .i64 5, .int .i64 n, .string ⟨#[]⟩]] h (fun v _ => v = .int .i64 0) := by
  refine x_con Try.func106 (c := Try.f106.body.getD .skip) (by kernel_rfl) (N := 50) rfl (by kernel_rfl) ?_
  intro hbx hbad Q hQ a w hJ
  replace hJ : K ⟨50, h.w, h.bad, []⟩ [(0, .agg #[.int .i64 5, .int .i64 n, .string ⟨#[]⟩])] [] [] h a w := hJ.to (by kernel_rfl) (by kernel_rfl) rfl
  refine rx hJ false 82 [.own, .b 0 0, .b 0 1, .b 0 1, .b 0 2] [(41, .bool (decide (n < 1)), .bool false), (45, .bool (decide (n > 15)), .bool false)] (.new fun b1 => .ok (.out .ret) [] [(2, .int .i64 0)] [.box b1 [.int .i64 5, .int .i64 n, .string ⟨#[]⟩]] []) trivial (And.intro (congrArg Value.bool (decide_eq_false (by omega))) (And.intro (congrArg Value.bool (decide_eq_false (by omega))) (trivial))) (fun b1 _ => by kernel_rfl) ?_
  clear hJ a w; intro b1 a w hJ
  refine x_end (hQ [.int .i64 0] _ [] hJ (.rtmp hJ.j (by kernel_rfl) .nil) (no_own _) rfl ?_).1
  exact rfl
theorem check_okv (v : Vl) (h : Vw) (hv : OkV v) : C0 Try.prog 106 #[v.val] h (fun r _ => r = .int .i64 0) := by
  rcases hv with hv | rfl | ⟨h1, h2, h3, h4⟩
  · exact C0.of_gives (fun w => value_check v.k v.n v.s w hv) h
  · exact check_pending h
  · obtain ⟨k, n, s⟩ := v
    simp only at h1 h2 h3 h4
    subst h1 h4
    exact check_fault n h h2 h3

/-- Facts, one after the other: those that come first count. -/
def addF (env : Env) (p : ByteArray × Vl) : Env := match env.get p.1 with
  | some _ => env
  | none => env ++ [p]
def factsE (l : Env) : Env := l.foldl addF []
theorem factsE_snoc (l : Env) (p : ByteArray × Vl) : factsE (l ++ [p]) = addF (factsE l) p := by unfold factsE; rw [List.foldl_append]; rfl
theorem envEs_snoc (l : Env) (p : ByteArray × Vl) : envEs (l ++ [p]) = envEs l ++ [(.string p.1, p.2.val)] := by simp [envEs, strEs]

set_option maxRecDepth 100000 in
theorem facts_any (l : Env) (sl : Value) (h : Vw) (hr : RS h 7 sl (fcRows l)) (hok : ∀ p ∈ l, OkV p.2) (hl : l.length ≤ 1000) :
    C0 Try.prog 72 #[sl] h (fun v h' => ∃ b, v = .tuple #[.map (some b), .int .i64 0] ∧ MapAt h' b (envEs (factsE l))) := by
  obtain ⟨A, cap, rfl, -, -, -⟩ := hr.form
  rw [List.length_map] at *
  generalize hL : l.length = len at *
  refine x_con Try.func72 (c := Try.f72.body.getD .skip) (by kernel_rfl) (N := 39) rfl (by kernel_rfl) ?_
  intro hbx hbad Q hQ a w hJ
  replace hJ : K ⟨39, h.w, h.bad, []⟩ [(0, .slice A len cap)] [] [] h a w := hJ.to (by kernel_rfl) (by kernel_rfl) rfl
  refine rx hJ false 8 [] [] (.ok (.ops [0, 1] 0) [.seq [1, 1]] [(0, .slice A len cap), (2, .map none), (3, .int .i64 0)] [] []) trivial trivial (fun _ => by kernel_rfl) ?_
  clear hJ a w; intro a w hJ
  refine x_mapmake hJ 10 (by kernel_rfl) (by kernel_rfl) ?_; clear hJ a w; intro b1 a w hJ
  refine rx hJ false 12 [] [] (.ok (.code [0, 1, 0, 1, 1]) [.block 0, .seq [1, 1, 1]] [(2, .map none), (3, .int .i64 0), (4, .map (some b1)), (11, .slice A len cap), (12, .int .i64 (len : Int)), (13, .int .i64 0)] [.map b1 ([])] []) trivial trivial (fun _ => by kernel_rfl) ?_
  clear hJ a w; intro a w hJ
  refine x_loop (fun (k : Nat) a w => ∃ (h2 : Vw) , K ⟨39, h.w, h.bad, []⟩ [(4, .map (some b1)), (11, .slice A len cap), (12, .int .i64 (len : Int)), (13, .int .i64 (k : Int))] [.map b1 (envEs (factsE (l.take k)))] [] h2 a w ∧ Sees h h2 ∧ (k ≤ len)) (fun k => len - k) (0) (by kernel_rfl) ⟨h, hJ.to (by kernel_rfl) (by kernel_rfl) rfl, Sees.refl _, Nat.zero_le _⟩ ?_
  clear hJ a w; rintro k a w ⟨h2, hJ, s3, hk⟩
  refine rx hJ false 6 [] [] (.ok (.code [0, 1, 0, 0, 1, 0, 1, 1]) [.seq [1, 1, 0, 0, 1, 0, 1, 1]] [(4, .map (some b1)), (11, .slice A len cap), (12, .int .i64 (len : Int)), (13, .int .i64 (k : Int)), (14, .bool (decide ((k : Int) < (len : Int))))] [.map b1 (envEs (factsE (l.take k)))] []) trivial trivial (fun _ => by kernel_rfl) ?_
  clear hJ a w; intro a w hJ
  rcases (by omega : k < len ∨ len = k) with hlt | hke
  · obtain ⟨p, hp⟩ : ∃ p, l[k]? = some p := ⟨_, List.getElem?_eq_getElem (by omega)⟩
    have hrow : (fcRows l)[k]? = some (fcRow p) := by rw [List.getElem?_map, hp]; rfl
    have hck := fun H => check_okv p.2 H (hok p (List.mem_of_getElem? hp))
    have htk : factsE (l.take (k + 1)) = addF (factsE (l.take k)) p := by rw [take_snoc' l k p hp, factsE_snoc]
    generalize factsE (l.take k) = env at *
    cases hg : env.get p.1 with
    | some u =>
      obtain ⟨i, hi⟩ := of_lookup hg
      refine x_true hJ (t := decide ((k : Int) < (len : Int))) (by kernel_rfl) (decide_eq_true (by omega)) ?_
      refine rx hJ false 6 [] [] (.ok (.ops [0, 0, 0, 1, 1, 0, 0, 1, 0, 1, 1] 0) [.seq [1, 0, 0, 1, 1, 0, 0, 1, 0, 1, 1], .block 1, .seq [1, 1, 1, 0, 0, 1, 0, 1, 1]] [(4, .map (some b1)), (11, .slice A len cap), (12, .int .i64 (len : Int)), (13, .int .i64 (k : Int)), (14, .bool (decide ((k : Int) < (len : Int))))] [.map b1 (envEs (env))] []) trivial trivial (fun _ => by kernel_rfl) ?_
      clear hJ a w; intro a w hJ
      obtain ⟨b4, o5, rfl, -, c6⟩ := RS.row hr (hrow)
      replace hJ := hJ.fact (c6.sees s3)
      refine rx hJ false 29 [.ix b4 o5 len cap k, .f 0 0, .own, .b 0 0, .b 0 4, .cl 106 #[.agg #[.int .i64 p.2.k, .int .i64 p.2.n, .string p.2.s]] (.int .i64 0), .b 0 0] [] (.new fun b7 => .ok (.ops [0, 1, 1, 0, 0, 1, 1, 0, 0, 1, 0, 1, 1] 3) [.seq [1, 1, 1, 0, 0, 1, 1, 0, 0, 1, 0, 1, 1], .block 1, .seq [1, 1, 1, 0, 0, 1, 0, 1, 1]] [(4, .map (some b1)), (11, .slice (some ⟨b4, o5, none⟩) len cap), (12, .int .i64 (len : Int)), (13, .int .i64 (k : Int)), (14, .bool (decide ((k : Int) < (len : Int)))), (15, .pointer (some ⟨b4, o5 + k * 7, none⟩)), (16, .agg #[.string p.1, .int .i64 0, .int .i64 0, .string ⟨#[]⟩, .int .i64 p.2.k, .int .i64 p.2.n, .string p.2.s]), (6, .pointer (some ⟨b7, 0, none⟩)), (17, .pointer (some ⟨b7, 4, none⟩)), (18, .agg #[.int .i64 p.2.k, .int .i64 p.2.n, .string p.2.s]), (19, .int .i64 0), (7, .int .i64 0), (20, .int .i64 0), (21, .bool false), (24, .map (some b1)), (25, .pointer (some ⟨b7, 0, none⟩)), (26, .string p.1)] [.box b7 [.string p.1, .int .i64 0, .int .i64 0, .string ⟨#[]⟩, .int .i64 p.2.k, .int .i64 p.2.n, .string p.2.s], .map b1 (envEs (env))] [(b4, o5 + k * 7, [.string p.1, .int .i64 0, .int .i64 0, .string ⟨#[]⟩, .int .i64 p.2.k, .int .i64 p.2.n, .string p.2.s])]) (And.intro (by first | omega | (simp; omega)) (And.intro (fun H sH => hck _) (trivial))) trivial (fun b7 _ => by kernel_rfl) ?_
      clear hJ a w; intro b7 a w hJ
      refine x_mapget hJ 27 (b := b1) (t := 115) (mo := (.tmp 24)) (ko := (.tmp 26)) (c := true) (es := envEs (env)) (kt := 9) (et := 24) (td := .string) (key := .string p.1) (z := .agg #[.int .i64 0, .int .i64 0, .string ⟨#[]⟩]) (v := .tuple #[.agg #[.int .i64 u.k, .int .i64 u.n, .string u.s], .bool true]) (r := some (i, .agg #[.int .i64 u.k, .int .i64 u.n, .string u.s])) (by kernel_rfl) (by kernel_rfl) (hJ.map 1 (by kernel_rfl)) (by kernel_rfl) (by kernel_rfl) Try.underlying115 Try.underlying9 (by kernel_rfl) (hi) (fun _ => by kernel_rfl) (by kernel_rfl) ?_; clear hJ a w; intro a w hJ
      refine rx hJ false 22 [.own, .b 0 0] [(37, .int .i64 (IntKind.i64.wrap ((k : Int) + 1)), .int .i64 ((k : Int) + 1))] (.new fun b8 => .ok (.out .normal) [] [(4, .map (some b1)), (11, .slice (some ⟨b4, o5, none⟩) len cap), (12, .int .i64 (len : Int)), (14, .bool (decide ((k : Int) < (len : Int)))), (15, .pointer (some ⟨b4, o5 + k * 7, none⟩)), (16, .agg #[.string p.1, .int .i64 0, .int .i64 0, .string ⟨#[]⟩, .int .i64 p.2.k, .int .i64 p.2.n, .string p.2.s]), (6, .pointer (some ⟨b7, 0, none⟩)), (17, .pointer (some ⟨b7, 4, none⟩)), (18, .agg #[.int .i64 p.2.k, .int .i64 p.2.n, .string p.2.s]), (19, .int .i64 0), (7, .int .i64 0), (20, .int .i64 0), (21, .bool false), (24, .map (some b1)), (25, .pointer (some ⟨b7, 0, none⟩)), (26, .string p.1), (27, .tuple #[.agg #[.int .i64 u.k, .int .i64 u.n, .string u.s], .bool true]), (23, .tuple #[.agg #[.int .i64 u.k, .int .i64 u.n, .string u.s], .bool true]), (28, .agg #[.int .i64 u.k, .int .i64 u.n, .string u.s]), (29, .bool true), (8, .pointer (some ⟨b8, 0, none⟩)), (9, .bool true), (30, .bool true), (31, .bool false), (37, .int .i64 ((k : Int) + 1)), (13, .int .i64 ((k : Int) + 1))] [.box b8 [.int .i64 u.k, .int .i64 u.n, .string u.s], .box b7 [.string p.1, .int .i64 0, .int .i64 0, .string ⟨#[]⟩, .int .i64 p.2.k, .int .i64 p.2.n, .string p.2.s], .map b1 (envEs (env))] [(b4, o5 + k * 7, [.string p.1, .int .i64 0, .int .i64 0, .string ⟨#[]⟩, .int .i64 p.2.k, .int .i64 p.2.n, .string p.2.s])]) trivial (And.intro (i64_wrap (by omega) (by omega)) (trivial)) (fun b8 _ => by kernel_rfl) ?_
      clear hJ a w; intro b8 a w hJ
      replace hJ := hJ.drop 1
      replace hJ := hJ.drop 0
      exact x_round ⟨k + 1, ⟨h2, (hJ.tof [] (F' := []) (by kernel_rfl)).to (by kernel_rfl) (by rw [htk]; unfold addF; rw [hg]; rfl) rfl, s3, by omega⟩, by omega⟩
    | none =>
      refine x_true hJ (t := decide ((k : Int) < (len : Int))) (by kernel_rfl) (decide_eq_true (by omega)) ?_
      refine rx hJ false 6 [] [] (.ok (.ops [0, 0, 0, 1, 1, 0, 0, 1, 0, 1, 1] 0) [.seq [1, 0, 0, 1, 1, 0, 0, 1, 0, 1, 1], .block 1, .seq [1, 1, 1, 0, 0, 1, 0, 1, 1]] [(4, .map (some b1)), (11, .slice A len cap), (12, .int .i64 (len : Int)), (13, .int .i64 (k : Int)), (14, .bool (decide ((k : Int) < (len : Int))))] [.map b1 (envEs (env))] []) trivial trivial (fun _ => by kernel_rfl) ?_
      clear hJ a w; intro a w hJ
      obtain ⟨b9, o10, rfl, -, c11⟩ := RS.row hr (hrow)
      replace hJ := hJ.fact (c11.sees s3)
      refine rx hJ false 29 [.ix b9 o10 len cap k, .f 0 0, .own, .b 0 0, .b 0 4, .cl 106 #[.agg #[.int .i64 p.2.k, .int .i64 p.2.n, .string p.2.s]] (.int .i64 0), .b 0 0] [] (.new fun b12 => .ok (.ops [0, 1, 1, 0, 0, 1, 1, 0, 0, 1, 0, 1, 1] 3) [.seq [1, 1, 1, 0, 0, 1, 1, 0, 0, 1, 0, 1, 1], .block 1, .seq [1, 1, 1, 0, 0, 1, 0, 1, 1]] [(4, .map (some b1)), (11, .slice (some ⟨b9, o10, none⟩) len cap), (12, .int .i64 (len : Int)), (13, .int .i64 (k : Int)), (14, .bool (decide ((k : Int) < (len : Int)))), (15, .pointer (some ⟨b9, o10 + k * 7, none⟩)), (16, .agg #[.string p.1, .int .i64 0, .int .i64 0, .string ⟨#[]⟩, .int .i64 p.2.k, .int .i64 p.2.n, .string p.2.s]), (6, .pointer (some ⟨b12, 0, none⟩)), (17, .pointer (some ⟨b12, 4, none⟩)), (18, .agg #[.int .i64 p.2.k, .int .i64 p.2.n, .string p.2.s]), (19, .int .i64 0), (7, .int .i64 0), (20, .int .i64 0), (21, .bool false), (24, .map (some b1)), (25, .pointer (some ⟨b12, 0, none⟩)), (26, .string p.1)] [.box b12 [.string p.1, .int .i64 0, .int .i64 0, .string ⟨#[]⟩, .int .i64 p.2.k, .int .i64 p.2.n, .string p.2.s], .map b1 (envEs (env))] [(b9, o10 + k * 7, [.string p.1, .int .i64 0, .int .i64 0, .string ⟨#[]⟩, .int .i64 p.2.k, .int .i64 p.2.n, .string p.2.s])]) (And.intro (by first | omega | (simp; omega)) (And.intro (fun H sH => hck _) (trivial))) trivial (fun b12 _ => by kernel_rfl) ?_
      clear hJ a w; intro b12 a w hJ
      refine x_mapget hJ 27 (b := b1) (t := 115) (mo := (.tmp 24)) (ko := (.tmp 26)) (c := true) (es := envEs (env)) (kt := 9) (et := 24) (td := .string) (key := .string p.1) (z := .agg #[.int .i64 0, .int .i64 0, .string ⟨#[]⟩]) (v := .tuple #[.agg #[.int .i64 0, .int .i64 0, .string ⟨#[]⟩], .bool false]) (r := none) (by kernel_rfl) (by kernel_rfl) (hJ.map 1 (by kernel_rfl)) (by kernel_rfl) (by kernel_rfl) Try.underlying115 Try.underlying9 (by kernel_rfl) (of_miss hg) (fun _ => by kernel_rfl) (by kernel_rfl) ?_; clear hJ a w; intro a w hJ
      refine rx hJ false 21 [.own, .b 0 0, .b 1 0, .b 1 4] [] (.new fun b13 => .ok (.ops [0, 1, 1, 1, 1, 0, 0, 1, 1, 0, 0, 1, 0, 1, 1] 5) [.block 1, .seq [1, 1, 1, 0, 0, 1, 0, 1, 1]] [(4, .map (some b1)), (11, .slice (some ⟨b9, o10, none⟩) len cap), (12, .int .i64 (len : Int)), (13, .int .i64 (k : Int)), (14, .bool (decide ((k : Int) < (len : Int)))), (15, .pointer (some ⟨b9, o10 + k * 7, none⟩)), (16, .agg #[.string p.1, .int .i64 0, .int .i64 0, .string ⟨#[]⟩, .int .i64 p.2.k, .int .i64 p.2.n, .string p.2.s]), (6, .pointer (some ⟨b12, 0, none⟩)), (17, .pointer (some ⟨b12, 4, none⟩)), (18, .agg #[.int .i64 p.2.k, .int .i64 p.2.n, .string p.2.s]), (19, .int .i64 0), (7, .int .i64 0), (20, .int .i64 0), (21, .bool false), (24, .map (some b1)), (25, .pointer (some ⟨b12, 0, none⟩)), (26, .string p.1), (27, .tuple #[.agg #[.int .i64 0, .int .i64 0, .string ⟨#[]⟩], .bool false]), (23, .tuple #[.agg #[.int .i64 0, .int .i64 0, .string ⟨#[]⟩], .bool false]), (28, .agg #[.int .i64 0, .int .i64 0, .string ⟨#[]⟩]), (29, .bool false), (8, .pointer (some ⟨b13, 0, none⟩)), (9, .bool false), (30, .bool false), (31, .bool true), (32, .map (some b1)), (33, .pointer (some ⟨b12, 0, none⟩)), (34, .string p.1), (35, .pointer (some ⟨b12, 4, none⟩)), (36, .agg #[.int .i64 p.2.k, .int .i64 p.2.n, .string p.2.s])] [.box b13 [.int .i64 0, .int .i64 0, .string ⟨#[]⟩], .box b12 [.string p.1, .int .i64 0, .int .i64 0, .string ⟨#[]⟩, .int .i64 p.2.k, .int .i64 p.2.n, .string p.2.s], .map b1 (envEs (env))] [(b9, o10 + k * 7, [.string p.1, .int .i64 0, .int .i64 0, .string ⟨#[]⟩, .int .i64 p.2.k, .int .i64 p.2.n, .string p.2.s])]) trivial trivial (fun b13 _ => by kernel_rfl) ?_
      clear hJ a w; intro b13 a w hJ
      refine x_mapset hJ 2 (b := b1) (t := 115) (mo := (.tmp 32)) (ko := (.tmp 34)) (vo := (.tmp 36)) (es := envEs (env)) (kt := 9) (et := 24) (td := .string) (key := .string p.1) (v := .agg #[.int .i64 p.2.k, .int .i64 p.2.n, .string p.2.s]) (by kernel_rfl) (by kernel_rfl) (by kernel_rfl) (by kernel_rfl) (by kernel_rfl) (by kernel_rfl) Try.underlying115 Try.underlying9 (by kernel_rfl) (of_miss hg) ?_; clear hJ a w; intro a w hJ
      refine rx hJ false 7 [] [(37, .int .i64 (IntKind.i64.wrap ((k : Int) + 1)), .int .i64 ((k : Int) + 1))] (.ok (.out .normal) [] [(4, .map (some b1)), (11, .slice (some ⟨b9, o10, none⟩) len cap), (12, .int .i64 (len : Int)), (14, .bool (decide ((k : Int) < (len : Int)))), (15, .pointer (some ⟨b9, o10 + k * 7, none⟩)), (16, .agg #[.string p.1, .int .i64 0, .int .i64 0, .string ⟨#[]⟩, .int .i64 p.2.k, .int .i64 p.2.n, .string p.2.s]), (6, .pointer (some ⟨b12, 0, none⟩)), (17, .pointer (some ⟨b12, 4, none⟩)), (18, .agg #[.int .i64 p.2.k, .int .i64 p.2.n, .string p.2.s]), (19, .int .i64 0), (7, .int .i64 0), (20, .int .i64 0), (21, .bool false), (24, .map (some b1)), (25, .pointer (some ⟨b12, 0, none⟩)), (26, .string p.1), (27, .tuple #[.agg #[.int .i64 0, .int .i64 0, .string ⟨#[]⟩], .bool false]), (23, .tuple #[.agg #[.int .i64 0, .int .i64 0, .string ⟨#[]⟩], .bool false]), (28, .agg #[.int .i64 0, .int .i64 0, .string ⟨#[]⟩]), (29, .bool false), (8, .pointer (some ⟨b13, 0, none⟩)), (9, .bool false), (30, .bool false), (31, .bool true), (32, .map (some b1)), (33, .pointer (some ⟨b12, 0, none⟩)), (34, .string p.1), (35, .pointer (some ⟨b12, 4, none⟩)), (36, .agg #[.int .i64 p.2.k, .int .i64 p.2.n, .string p.2.s]), (37, .int .i64 ((k : Int) + 1)), (13, .int .i64 ((k : Int) + 1))] [.box b13 [.int .i64 0, .int .i64 0, .string ⟨#[]⟩], .box b12 [.string p.1, .int .i64 0, .int .i64 0, .string ⟨#[]⟩, .int .i64 p.2.k, .int .i64 p.2.n, .string p.2.s], .map b1 ((envEs (env)) ++ [(.string p.1, .agg #[.int .i64 p.2.k, .int .i64 p.2.n, .string p.2.s])])] [(b9, o10 + k * 7, [.string p.1, .int .i64 0, .int .i64 0, .string ⟨#[]⟩, .int .i64 p.2.k, .int .i64 p.2.n, .string p.2.s])]) trivial (And.intro (i64_wrap (by omega) (by omega)) (trivial)) (fun _ => by kernel_rfl) ?_
      clear hJ a w; intro a w hJ
      replace hJ := hJ.drop 1
      replace hJ := hJ.drop 0
      exact x_round ⟨k + 1, ⟨h2, (hJ.tof [] (F' := []) (by kernel_rfl)).to (by kernel_rfl) (by rw [htk]; unfold addF; rw [hg]; simp only; rw [envEs_snoc]; rfl) rfl, s3, by omega⟩, by omega⟩
  · skip
    have hta : l.take k = l := by rw [← hke, ← hL, List.take_length]
    rw [hta] at hJ
    refine x_false hJ (t := decide ((k : Int) < (len : Int))) (by kernel_rfl) (decide_eq_false (by omega)) ?_
    refine rx hJ false 2 [] [] (.ok (.out (.exit 0)) [] [(4, .map (some b1)), (11, .slice A len cap), (12, .int .i64 (len : Int)), (13, .int .i64 (k : Int)), (14, .bool (decide ((k : Int) < (len : Int))))] [.map b1 (envEs (factsE l))] []) trivial trivial (fun _ => by kernel_rfl) ?_
    clear hJ a w; intro a w hJ
    refine x_leave rfl ?_
    refine rx hJ false 10 [] [] (.ok (.out .ret) [] [(2, .map (some b1)), (3, .int .i64 0)] [.map b1 (envEs (factsE l))] []) trivial trivial (fun _ => by kernel_rfl) ?_
    clear hJ a w; intro a w hJ
    refine x_end (hQ [.map (some b1), .int .i64 0] _ [] hJ (.rtmp hJ.j (by kernel_rfl) (.rtmp hJ.j (by kernel_rfl) .nil)) (no_own _) rfl ?_).1
    exact ⟨b1, rfl, hJ.mapOut 0 (by kernel_rfl) rfl⟩

theorem get_snoc (s : ByteArray) (p : ByteArray × Vl) : ∀ l : Env, Env.get (l ++ [p]) s = match Env.get l s with | some v => some v | none => if s == p.1 then some p.2 else none
  | [] => by show Env.get [p] s = _; obtain ⟨a, b⟩ := p; unfold Env.get; cases s == a <;> rfl
  | (k, v) :: l => by
    show Env.get ((k, v) :: (l ++ [p])) s = _
    rw [Env.get, Env.get]
    cases s == k
    · simp only [Bool.false_eq_true, if_false]; exact get_snoc s p l
    · rfl
theorem get_addF (s : ByteArray) (p : ByteArray × Vl) (env : Env) : (addF env p).get s = match env.get s with | some v => some v | none => if s == p.1 then some p.2 else none := by
  unfold addF
  cases hg : env.get p.1 with
  | none => simp only; exact get_snoc s p env
  | some u =>
    simp only
    cases hs : env.get s with
    | some v => rfl
    | none =>
      simp only
      by_cases he : (s == p.1) = true
      · have : s = p.1 := (Go.MapKept.bytes_beq _ _).1 he
        rw [this] at hs; rw [hs] at hg; cases hg
      · rw [if_neg he]
theorem factsE_get (s : ByteArray) : ∀ l : Env, (factsE l).get s = l.get s := by
  have key : ∀ (l env : Env), (l.foldl addF env).get s = match env.get s with | some v => some v | none => l.get s := by
    intro l
    induction l with
    | nil => intro env; simp only [List.foldl_nil]; cases env.get s <;> rfl
    | cons p l ih =>
      intro env
      rw [List.foldl_cons, ih, get_addF]
      obtain ⟨k, v⟩ := p
      cases hs : env.get s with
      | some u => rfl
      | none =>
        simp only
        rw [Env.get]
        cases s == k <;> rfl
  intro l
  exact key l []
theorem get_mem {s : ByteArray} {v : Vl} : ∀ {l : Env}, Env.get l s = some v → (s, v) ∈ l
  | [], h => by cases h
  | (k, u) :: l, h => by
    rw [Env.get] at h
    by_cases he : (s == k) = true
    · rw [if_pos he] at h
      have : s = k := (Go.MapKept.bytes_beq _ _).1 he
      simp only [Option.some.injEq] at h
      subst this h; simp
    · rw [if_neg he] at h
      exact List.mem_cons_of_mem _ (get_mem h)
theorem factsE_ok {l : Env} (h : ∀ p ∈ l, OkV p.2) : EnvOk (factsE l) := fun s v hs => by
  rw [factsE_get] at hs
  exact h _ (get_mem hs)
theorem ev_congr {e f : Env} (h : ∀ s, e.get s = f.get s) : ∀ (m : Nat) (x : Ex), (szE x).1 ≤ m → evalE e x = evalE f x
  | 0, x, hm => by have := szE_pos x; omega
  | m + 1, x, hm => by
    have hse := szE_eq x
    rw [hse] at hm
    simp only at hm
    have hl : evalL e x.args = evalL f x.args := by
      rw [evalL_map, evalL_map]
      exact List.map_congr_left fun y hy => ev_congr h m y (by have := (szL_mem hy).1; omega)
    rw [evalE_eq e x, evalE_eq f x, hl, h]
theorem ev_facts (l : Env) (x : Ex) : evalE (factsE l) x = evalE l x := ev_congr (fun s => factsE_get s l) _ x (Nat.le_refl _)

set_option maxRecDepth 100000 in
theorem eval_any (x : Ex) (v : Value) (l : Env) (sl : Value) (h : Vw) (hx : IsArgs h x v) (hw : WfE x) (hb : (szE x).1 ≤ 60) (hb2 : (szE x).2 ≤ 12) (hr : RS h 7 sl (fcRows l)) (hok : ∀ p ∈ l, OkV p.2) (hl : l.length ≤ 1000) :
    C0 Try.prog 38 #[.agg #[.int .i64 x.op, .int .i64 x.k, .int .i64 x.n, .string x.s, .string x.nm, v], sl] h (fun r _ => r = .tuple #[(evalE l x).val, .int .i64 0]) := by
  obtain ⟨A, na, ca, rfl⟩ := hx.slice
  obtain ⟨A2, c2, rfl, -, -, -⟩ := hr.form
  rw [List.length_map] at *
  have hck := fun H hq => check_any x (.slice A na ca) H hq hw (by omega)
  rw [show chkE x = 0 from by unfold chkE; rw [if_neg (by omega), if_neg (by omega)]] at hck
  have hfa := fun H hq => facts_any l (.slice A2 l.length c2) H hq hok hl
  have hof := fun b H q1 q2 => of_any (factsE l) (factsE_ok hok) b _ x (.slice A na ca) H (Nat.le_refl _) q1 hw q2
  rw [ev_facts] at hof
  refine x_con Try.func38 (c := Try.f38.body.getD .skip) (by kernel_rfl) (N := 27) rfl (by kernel_rfl) ?_
  intro hbx hbad Q hQ a w hJ
  replace hJ : K ⟨27, h.w, h.bad, []⟩ [(0, .agg #[.int .i64 x.op, .int .i64 x.k, .int .i64 x.n, .string x.s, .string x.nm, .slice A na ca]), (1, .slice A2 l.length c2)] [] [] h a w := hJ.to (by kernel_rfl) (by kernel_rfl) rfl
  refine rx hJ false 27 [.own, .own, .b 1 0, .cl 41 #[.agg #[.int .i64 x.op, .int .i64 x.k, .int .i64 x.n, .string x.s, .string x.nm, .slice A na ca]] (.int .i64 0)] [] (.new fun b1 => .new fun b2 => .ok (.ops [0, 1, 1] 1) [.seq [1, 1, 1]] [(2, .pointer (some ⟨b1, 0, none⟩)), (4, .pointer (some ⟨b2, 0, none⟩)), (5, .int .i64 0), (16, .slice A2 l.length c2)] [.box b2 [.int .i64 0, .int .i64 0, .string ⟨#[]⟩], .box b1 [.int .i64 x.op, .int .i64 x.k, .int .i64 x.n, .string x.s, .string x.nm, .slice A na ca]] []) (And.intro (fun H sH => hck _ (hx.sees sH)) (trivial)) trivial (fun b1 b2 _ => by kernel_rfl) ?_
  clear hJ a w; intro b1 b2 a w hJ
  refine x_call hJ 17 (hfa _ (hr.sees hJ.j.sees)) (fun _ => by kernel_rfl) ?_; clear hJ a w; rintro _ h3 a w s4 ⟨bm, rfl, hmp⟩ hJ
  refine rx hJ false 21 [.b 1 0] [] (.ok (.ops [0, 1, 1, 1, 1] 2) [.seq [1, 1, 1, 1, 1]] [(4, .pointer (some ⟨b2, 0, none⟩)), (5, .int .i64 0), (24, .map (some bm)), (25, .agg #[.int .i64 x.op, .int .i64 x.k, .int .i64 x.n, .string x.s, .string x.nm, .slice A na ca])] [.box b2 [.int .i64 0, .int .i64 0, .string ⟨#[]⟩], .box b1 [.int .i64 x.op, .int .i64 x.k, .int .i64 x.n, .string x.s, .string x.nm, .slice A na ca]] []) trivial trivial (fun _ => by kernel_rfl) ?_
  clear hJ a w; intro a w hJ
  refine rx hJ false 6 [.cl 73 #[.map (some bm), .agg #[.int .i64 x.op, .int .i64 x.k, .int .i64 x.n, .string x.s, .string x.nm, .slice A na ca]] (.agg #[.int .i64 ((evalE l x).k), .int .i64 ((evalE l x).n), .string ((evalE l x).s)]), .b 0 0] [] (.ok (.out .ret) [] [(4, .pointer (some ⟨b2, 0, none⟩)), (5, .int .i64 0)] [.box b2 [.int .i64 ((evalE l x).k), .int .i64 ((evalE l x).n), .string ((evalE l x).s)], .box b1 [.int .i64 x.op, .int .i64 x.k, .int .i64 x.n, .string x.s, .string x.nm, .slice A na ca]] []) (And.intro (fun H sH => hof _ _ (hx.sees (s4.trans sH)) (hmp.sees sH)) (trivial)) trivial (fun _ => by kernel_rfl) ?_
  clear hJ a w; intro a w hJ
  refine x_end (hQ [.agg #[.int .i64 ((evalE l x).k), .int .i64 ((evalE l x).n), .string ((evalE l x).s)], .int .i64 0] _ [] hJ (.rcell hJ.j 0 rfl (by kernel_rfl) (by kernel_rfl) (.rtmp hJ.j (by kernel_rfl) .nil)) (no_own _) rfl ?_).1
  exact rfl

end Go.Proofs.Ytgjndkphfabnnaa

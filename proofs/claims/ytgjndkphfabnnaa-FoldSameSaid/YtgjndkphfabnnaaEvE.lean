/-
  The contract of eval's machine: of.
-/
import Derived.Test.YtgjndkphfabnnaaEvD
namespace Go.Proofs.Ytgjndkphfabnnaa
open Go.RowKit

theorem first_known {v : Vl} (h : OkV v) (hk : (firstV v).2 = true) : (firstV v).1 = v ∧ v.k = 2 ∧ (v.n = 0 ∨ v.n = 1) := by
  unfold firstV at hk ⊢
  split at hk
  · cases hk
  · rename_i h13
    rw [if_neg h13]
    have h2 : v.k = 2 := by simpa using hk
    refine ⟨rfl, h2, ?_⟩
    rcases h with h | h | h
    · rcases h with h | h | h
      · omega
      · exact h.2.1
      · omega
    · rw [h] at h2; cases h2
    · omega
theorem hd_eval {env : Env} {l : List Ex} {i : Nat} {y : Ex} (h : l[i]? = some y) : hdV (evalL env l) i = evalE env y := by
  unfold hdV
  rw [evalL_map, List.getD_eq_getElem?_getD, List.getElem?_map, h]; rfl
theorem of_lookup {env : Env} {s : ByteArray} {v : Vl} (h : env.get s = some v) : ∃ i, mfind .string (.string s) (envEs env) = some (some (i, v.val)) := mfind_some (by rw [sget_env, h]; rfl)
theorem of_miss {env : Env} {s : ByteArray} (h : env.get s = none) : mfind .string (.string s) (envEs env) = some none := mfind_none (by rw [sget_env, h]; rfl)
theorem args_at {h : Vw} {x : Ex} {vs : List Value} (hvs : AllArgs h x.args vs) {i : Nat} (hi : i < x.args.length) : ∃ y A n c, x.args[i]? = some y ∧ IsArgs h y (.slice A n c) ∧ (exRows x.args vs)[i]? = some (exRow y (.slice A n c)) := by
  obtain ⟨y, hy⟩ : ∃ y, x.args[i]? = some y := ⟨_, List.getElem?_eq_getElem hi⟩
  obtain ⟨u, hu⟩ : ∃ u, vs[i]? = some u := ⟨_, List.getElem?_eq_getElem (by rw [hvs.len]; exact hi)⟩
  have hyu := AllArgs.get hvs hy hu
  obtain ⟨A, n, c, rfl⟩ := hyu.slice
  exact ⟨y, A, n, c, hy, hyu, by show (List.zipWith exRow _ _)[i]? = _; rw [List.getElem?_zipWith, hy, hu]⟩

set_option maxRecDepth 100000 in
theorem of_any (env : Env) (he : EnvOk env) (b : Nat) : ∀ (m : Nat) (x : Ex) (sl : Value) (h : Vw), (szE x).1 ≤ m → IsArgs h x sl → WfE x → MapAt h b (envEs env) →
    C0 Try.prog 73 #[.map (some b), .agg #[.int .i64 x.op, .int .i64 x.k, .int .i64 x.n, .string x.s, .string x.nm, sl]] h (fun r _ => r = (evalE env x).val)
  | 0, x, sl, h, hm, _, _, _ => by have := szE_pos x; omega
  | m + 1, x, sl, h, hm, hx, hw, hmp => by
    have IH := of_any env he b m
    have hse := szE_eq x
    rw [hse] at hm
    simp only at hm
    have hwl := hw.list
    have hof : OfAll env b x.args := fun y hy v H hyv hM => IH y v H (by have := (szL_mem hy).1; omega) hyv (hwl.get hy) hM
    have hok : ∀ y ∈ x.args, OkV (evalE env y) := fun y hy => evalE_ok he _ y (Nat.le_refl _) (hwl.get hy)
    have hev := evalE_eq env x
    obtain ⟨A, len, c, rfl⟩ := hx.slice
    rcases hw.top with ⟨h1, h2, h3, h4, h5⟩ | ⟨h1, h2, h3, h4, h5, h6⟩ | ⟨h1, h2, h3, h4, h5, h6, h7⟩
    · rw [if_pos h1] at hev
      rw [hev, h1]
      refine x_con Try.func73 (c := Try.f73.body.getD .skip) (by kernel_rfl) (N := 93) rfl (by kernel_rfl) ?_
      intro hbx hbad Q hQ a w hJ
      replace hJ : K ⟨93, h.w, h.bad, []⟩ [(0, .map (some b)), (1, .agg #[.int .i64 1, .int .i64 x.k, .int .i64 x.n, .string x.s, .string x.nm, .slice A len c])] [] [] h a w := hJ.to (by kernel_rfl) (by kernel_rfl) rfl
      refine rx hJ false 31 [.own, .own, .b 1 0, .b 1 1, .b 0 0] [] (.new fun b1 => .new fun b2 => .ok (.out .ret) [] [(4, .pointer (some ⟨b2, 0, none⟩))] [.box b2 [.int .i64 x.k, .int .i64 x.n, .string x.s], .box b1 [.int .i64 1, .int .i64 x.k, .int .i64 x.n, .string x.s, .string x.nm, .slice A len c]] []) trivial trivial (fun b1 b2 _ => by kernel_rfl) ?_
      clear hJ a w; intro b1 b2 a w hJ
      refine x_end (hQ [.agg #[.int .i64 x.k, .int .i64 x.n, .string x.s]] _ [] hJ (.rcell hJ.j 0 rfl (by kernel_rfl) (by kernel_rfl) .nil) (no_own _) rfl ?_).1
      exact rfl
    · rw [if_neg (by omega), if_pos h1] at hev
      rw [h1]
      cases hg : env.get x.nm with
      | none =>
        rw [hg] at hev
        have hl := of_miss hg
        rw [hev]
        refine x_con Try.func73 (c := Try.f73.body.getD .skip) (by kernel_rfl) (N := 93) rfl (by kernel_rfl) ?_
        intro hbx hbad Q hQ a w hJ
        replace hJ : K ⟨93, h.w, h.bad, []⟩ [(0, .map (some b)), (1, .agg #[.int .i64 2, .int .i64 x.k, .int .i64 x.n, .string x.s, .string x.nm, .slice A len c])] [] [] h a w := hJ.to (by kernel_rfl) (by kernel_rfl) rfl
        refine rx hJ false 34 [.own, .own, .b 1 0, .b 1 4] [] (.new fun b1 => .new fun b2 => .ok (.ops [0, 0, 0, 1, 1, 1, 0, 1, 0, 1] 3) [.seq [1, 0, 0, 1, 1, 1, 0, 1, 0, 1], .seq [1, 0, 1, 1, 1, 0, 1, 0, 1], .block 0, .seq [1, 1]] [(0, .map (some b)), (3, .pointer (some ⟨b1, 0, none⟩)), (4, .pointer (some ⟨b2, 0, none⟩)), (22, .map (some b)), (24, .string x.nm)] [.box b2 [.int .i64 0, .int .i64 0, .string ⟨#[]⟩], .box b1 [.int .i64 2, .int .i64 x.k, .int .i64 x.n, .string x.s, .string x.nm, .slice A len c]] []) trivial trivial (fun b1 b2 _ => by kernel_rfl) ?_
        clear hJ a w; intro b1 b2 a w hJ
        refine x_mapget hJ 25 (b := b) (t := 118) (mo := (.tmp 22)) (ko := (.tmp 24)) (c := true) (es := envEs env) (kt := 9) (et := 24) (td := .string) (key := .string x.nm) (z := .agg #[.int .i64 0, .int .i64 0, .string ⟨#[]⟩]) (v := .tuple #[.agg #[.int .i64 0, .int .i64 0, .string ⟨#[]⟩], .bool false]) (r := none) (by kernel_rfl) (by kernel_rfl) (MapAt.now (hmp.sees (Sees.refl _)) hJ) (by kernel_rfl) (by kernel_rfl) Try.underlying118 Try.underlying9 (by kernel_rfl) (hl) (fun _ => by kernel_rfl) (by kernel_rfl) ?_; clear hJ a w; intro a w hJ
        refine rx hJ false 25 [.own, .b 0 0, .cl 107 #[.int .i64 5] (.agg #[.int .i64 5, .int .i64 5, .string ⟨#[]⟩]), .b 1 0] [] (.new fun b3 => .ok (.out .ret) [] [(4, .pointer (some ⟨b2, 0, none⟩))] [.box b3 [.int .i64 0, .int .i64 0, .string ⟨#[]⟩], .box b2 [.int .i64 5, .int .i64 5, .string ⟨#[]⟩], .box b1 [.int .i64 2, .int .i64 x.k, .int .i64 x.n, .string x.s, .string x.nm, .slice A len c]] []) (And.intro (fun H sH => fault_any 5 _) (trivial)) trivial (fun b3 _ => by kernel_rfl) ?_
        clear hJ a w; intro b3 a w hJ
        refine x_end (hQ [.agg #[.int .i64 5, .int .i64 5, .string ⟨#[]⟩]] _ [] hJ (.rcell hJ.j 1 rfl (by kernel_rfl) (by kernel_rfl) .nil) (no_own _) rfl ?_).1
        exact rfl
      | some u =>
        rw [hg] at hev
        obtain ⟨i, hl⟩ := of_lookup hg
        rw [hev]
        refine x_con Try.func73 (c := Try.f73.body.getD .skip) (by kernel_rfl) (N := 93) rfl (by kernel_rfl) ?_
        intro hbx hbad Q hQ a w hJ
        replace hJ : K ⟨93, h.w, h.bad, []⟩ [(0, .map (some b)), (1, .agg #[.int .i64 2, .int .i64 x.k, .int .i64 x.n, .string x.s, .string x.nm, .slice A len c])] [] [] h a w := hJ.to (by kernel_rfl) (by kernel_rfl) rfl
        refine rx hJ false 34 [.own, .own, .b 1 0, .b 1 4] [] (.new fun b1 => .new fun b2 => .ok (.ops [0, 0, 0, 1, 1, 1, 0, 1, 0, 1] 3) [.seq [1, 0, 0, 1, 1, 1, 0, 1, 0, 1], .seq [1, 0, 1, 1, 1, 0, 1, 0, 1], .block 0, .seq [1, 1]] [(0, .map (some b)), (3, .pointer (some ⟨b1, 0, none⟩)), (4, .pointer (some ⟨b2, 0, none⟩)), (22, .map (some b)), (24, .string x.nm)] [.box b2 [.int .i64 0, .int .i64 0, .string ⟨#[]⟩], .box b1 [.int .i64 2, .int .i64 x.k, .int .i64 x.n, .string x.s, .string x.nm, .slice A len c]] []) trivial trivial (fun b1 b2 _ => by kernel_rfl) ?_
        clear hJ a w; intro b1 b2 a w hJ
        refine x_mapget hJ 25 (b := b) (t := 118) (mo := (.tmp 22)) (ko := (.tmp 24)) (c := true) (es := envEs env) (kt := 9) (et := 24) (td := .string) (key := .string x.nm) (z := .agg #[.int .i64 0, .int .i64 0, .string ⟨#[]⟩]) (v := .tuple #[.agg #[.int .i64 u.k, .int .i64 u.n, .string u.s], .bool true]) (r := some (i, .agg #[.int .i64 u.k, .int .i64 u.n, .string u.s])) (by kernel_rfl) (by kernel_rfl) (MapAt.now (hmp.sees (Sees.refl _)) hJ) (by kernel_rfl) (by kernel_rfl) Try.underlying118 Try.underlying9 (by kernel_rfl) (hl) (fun _ => by kernel_rfl) (by kernel_rfl) ?_; clear hJ a w; intro a w hJ
        refine rx hJ false 24 [.own, .b 0 0, .b 0 0, .b 1 0] [] (.new fun b3 => .ok (.out .ret) [] [(4, .pointer (some ⟨b2, 0, none⟩))] [.box b3 [.int .i64 u.k, .int .i64 u.n, .string u.s], .box b2 [.int .i64 u.k, .int .i64 u.n, .string u.s], .box b1 [.int .i64 2, .int .i64 x.k, .int .i64 x.n, .string x.s, .string x.nm, .slice A len c]] []) trivial trivial (fun b3 _ => by kernel_rfl) ?_
        clear hJ a w; intro b3 a w hJ
        refine x_end (hQ [.agg #[.int .i64 u.k, .int .i64 u.n, .string u.s]] _ [] hJ (.rcell hJ.j 1 rfl (by kernel_rfl) (by kernel_rfl) .nil) (no_own _) rfl ?_).1
        exact rfl
    · rw [if_neg (by omega), if_neg (by omega)] at hev
      have hap := arity_pos h1 h2
      obtain ⟨vs, hr, hvs⟩ := hx.form
      obtain ⟨A', c', e', -⟩ := hr.form
      rw [exRows_len hvs.len] at e'
      simp only [Value.slice.injEq] at e'
      obtain ⟨rfl, rfl, rfl⟩ := e'
      by_cases h15 : x.op = 15 ∨ x.op = 16
      · have ha : arity x.op = 2 := by unfold arity; rw [if_neg (by omega), if_neg (by omega), if_neg (by omega)]
        obtain ⟨y0, A0, n0, c0, hy0, -, -⟩ := args_at hvs (i := 0) (by omega)
        obtain ⟨y1, A1, n1, c1, hy1, hi1, hrow1⟩ := args_at hvs (i := 1) (by omega)
        have ok0 := hok y0 (List.mem_of_getElem? hy0)
        have ok1 := hok y1 (List.mem_of_getElem? hy1)
        have hf := fun H q1 q2 => first_any env b x y0 (.slice A x.args.length c) H q1 q2 hy0 hof ok0
        have hb := fun H q1 q2 => bool_any env b y1 (.slice A1 n1 c1) H q1 q2 (hof y1 (List.mem_of_getElem? hy1)) ok1
        rw [if_pos h15, hd_eval hy0, hd_eval hy1] at hev
        have hlen : 1 < x.args.length := by omega
        have hfk := first_known ok0
        generalize hF : firstV (evalE env y0) = f at *
        obtain ⟨⟨fk, fn, fs⟩, fb⟩ := f
        simp only at hev hfk hf
        rcases h15 with h15 | h15
        · have ho : (x.op == 16) = false := by rw [h15]; rfl
          rw [ho] at hev
          rw [h15] at hf ⊢
          cases fb with
          | false =>
            rw [if_pos (.inl rfl)] at hev
            rw [hev]
            refine x_con Try.func73 (c := Try.f73.body.getD .skip) (by kernel_rfl) (N := 93) rfl (by kernel_rfl) ?_
            intro hbx hbad Q hQ a w hJ
            replace hJ : K ⟨93, h.w, h.bad, []⟩ [(0, .map (some b)), (1, .agg #[.int .i64 15, .int .i64 x.k, .int .i64 x.n, .string x.s, .string x.nm, .slice A x.args.length c])] [] [] h a w := hJ.to (by kernel_rfl) (by kernel_rfl) rfl
            refine rx hJ false 79 [.own, .own, .b 1 0, .b 1 0, .cl 108 #[.map (some b), .agg #[.int .i64 15, .int .i64 x.k, .int .i64 x.n, .string x.s, .string x.nm, .slice A x.args.length c]] (.tuple #[.agg #[.int .i64 fk, .int .i64 fn, .string fs], .bool false]), .own, .b 0 0, .b 0 0, .b 1 0] [] (.new fun b1 => .new fun b2 => .new fun b3 => .ok (.out .ret) [] [(4, .pointer (some ⟨b2, 0, none⟩))] [.box b3 [.int .i64 fk, .int .i64 fn, .string fs], .box b2 [.int .i64 fk, .int .i64 fn, .string fs], .box b1 [.int .i64 15, .int .i64 x.k, .int .i64 x.n, .string x.s, .string x.nm, .slice A x.args.length c]] []) (And.intro (fun H sH => hf _ (hx.sees sH) (hmp.sees sH)) (trivial)) trivial (fun b1 b2 b3 _ => by kernel_rfl) ?_
            clear hJ a w; intro b1 b2 b3 a w hJ
            refine x_end (hQ [.agg #[.int .i64 fk, .int .i64 fn, .string fs]] _ [] hJ (.rcell hJ.j 1 rfl (by kernel_rfl) (by kernel_rfl) .nil) (no_own _) rfl ?_).1
            exact rfl
          | true =>
            obtain ⟨e1, e2, e3⟩ := hfk rfl
            rw [← e1] at e2 e3
            simp only at e2 e3
            subst e2
            rcases e3 with rfl | rfl
            · rw [if_pos (.inr (by decide))] at hev
              rw [hev]
              refine x_con Try.func73 (c := Try.f73.body.getD .skip) (by kernel_rfl) (N := 93) rfl (by kernel_rfl) ?_
              intro hbx hbad Q hQ a w hJ
              replace hJ : K ⟨93, h.w, h.bad, []⟩ [(0, .map (some b)), (1, .agg #[.int .i64 15, .int .i64 x.k, .int .i64 x.n, .string x.s, .string x.nm, .slice A x.args.length c])] [] [] h a w := hJ.to (by kernel_rfl) (by kernel_rfl) rfl
              refine rx hJ false 79 [.own, .own, .b 1 0, .b 1 0, .cl 108 #[.map (some b), .agg #[.int .i64 15, .int .i64 x.k, .int .i64 x.n, .string x.s, .string x.nm, .slice A x.args.length c]] (.tuple #[.agg #[.int .i64 2, .int .i64 0, .string fs], .bool true]), .own, .b 0 0, .b 0 1, .b 2 0, .b 0 0, .b 1 0] [] (.new fun b1 => .new fun b2 => .new fun b3 => .ok (.out .ret) [] [(4, .pointer (some ⟨b2, 0, none⟩))] [.box b3 [.int .i64 2, .int .i64 0, .string fs], .box b2 [.int .i64 2, .int .i64 0, .string fs], .box b1 [.int .i64 15, .int .i64 x.k, .int .i64 x.n, .string x.s, .string x.nm, .slice A x.args.length c]] []) (And.intro (fun H sH => hf _ (hx.sees sH) (hmp.sees sH)) (trivial)) trivial (fun b1 b2 b3 _ => by kernel_rfl) ?_
              clear hJ a w; intro b1 b2 b3 a w hJ
              refine x_end (hQ [.agg #[.int .i64 2, .int .i64 0, .string fs]] _ [] hJ (.rcell hJ.j 1 rfl (by kernel_rfl) (by kernel_rfl) .nil) (no_own _) rfl ?_).1
              exact rfl
            · rw [if_neg (by simp)] at hev
              rw [hev]
              refine x_con Try.func73 (c := Try.f73.body.getD .skip) (by kernel_rfl) (N := 93) rfl (by kernel_rfl) ?_
              intro hbx hbad Q hQ a w hJ
              replace hJ : K ⟨93, h.w, h.bad, []⟩ [(0, .map (some b)), (1, .agg #[.int .i64 15, .int .i64 x.k, .int .i64 x.n, .string x.s, .string x.nm, .slice A x.args.length c])] [] [] h a w := hJ.to (by kernel_rfl) (by kernel_rfl) rfl
              refine rx hJ false 76 [.own, .own, .b 1 0, .b 1 0, .cl 108 #[.map (some b), .agg #[.int .i64 15, .int .i64 x.k, .int .i64 x.n, .string x.s, .string x.nm, .slice A x.args.length c]] (.tuple #[.agg #[.int .i64 2, .int .i64 1, .string fs], .bool true]), .own, .b 0 0, .b 0 1, .b 2 0, .b 2 5] [] (.new fun b1 => .new fun b2 => .new fun b3 => .ok (.ops [0, 1, 1, 0, 1, 1, 1, 1, 1, 0, 1, 0, 1] 3) [.seq [1, 1, 1, 0, 1, 1, 1, 1, 1, 0, 1, 0, 1], .block 0, .seq [1, 1]] [(0, .map (some b)), (3, .pointer (some ⟨b1, 0, none⟩)), (4, .pointer (some ⟨b2, 0, none⟩)), (52, .map (some b)), (54, .slice A x.args.length c)] [.box b3 [.int .i64 2, .int .i64 1, .string fs], .box b2 [.int .i64 0, .int .i64 0, .string ⟨#[]⟩], .box b1 [.int .i64 15, .int .i64 x.k, .int .i64 x.n, .string x.s, .string x.nm, .slice A x.args.length c]] []) (And.intro (fun H sH => hf _ (hx.sees sH) (hmp.sees sH)) (trivial)) trivial (fun b1 b2 b3 _ => by kernel_rfl) ?_
              clear hJ a w; intro b1 b2 b3 a w hJ
              obtain ⟨b4, o5, rfl, -, c6⟩ := RS.row hr (hrow1)
              replace hJ := hJ.fact (c6.sees (Sees.refl _))
              refine rx hJ false 9 [.ix b4 o5 x.args.length c 1, .f 0 0, .cl 109 #[.map (some b), .agg #[.int .i64 y1.op, .int .i64 y1.k, .int .i64 y1.n, .string y1.s, .string y1.nm, .slice A1 n1 c1]] (.agg #[.int .i64 ((boolV (evalE env y1)).k), .int .i64 ((boolV (evalE env y1)).n), .string ((boolV (evalE env y1)).s)]), .b 1 0] [] (.ok (.out .ret) [] [(4, .pointer (some ⟨b2, 0, none⟩))] [.box b3 [.int .i64 2, .int .i64 1, .string fs], .box b2 [.int .i64 ((boolV (evalE env y1)).k), .int .i64 ((boolV (evalE env y1)).n), .string ((boolV (evalE env y1)).s)], .box b1 [.int .i64 15, .int .i64 x.k, .int .i64 x.n, .string x.s, .string x.nm, .slice (some ⟨b4, o5, none⟩) x.args.length c]] [(b4, o5 + 1 * 6, [.int .i64 y1.op, .int .i64 y1.k, .int .i64 y1.n, .string y1.s, .string y1.nm, .slice A1 n1 c1])]) (And.intro (by first | omega | (simp; omega)) (And.intro (fun H sH => hb _ (hi1.sees sH) (hmp.sees sH)) (trivial))) trivial (fun _ => by kernel_rfl) ?_
              clear hJ a w; intro a w hJ
              refine x_end (hQ [.agg #[.int .i64 ((boolV (evalE env y1)).k), .int .i64 ((boolV (evalE env y1)).n), .string ((boolV (evalE env y1)).s)]] _ [] hJ (.rcell hJ.j 1 rfl (by kernel_rfl) (by kernel_rfl) .nil) (no_own _) rfl ?_).1
              exact rfl
        · have ho : (x.op == 16) = true := by rw [h15]; rfl
          rw [ho] at hev
          rw [h15] at hf ⊢
          cases fb with
          | false =>
            rw [if_pos (.inl rfl)] at hev
            rw [hev]
            refine x_con Try.func73 (c := Try.f73.body.getD .skip) (by kernel_rfl) (N := 93) rfl (by kernel_rfl) ?_
            intro hbx hbad Q hQ a w hJ
            replace hJ : K ⟨93, h.w, h.bad, []⟩ [(0, .map (some b)), (1, .agg #[.int .i64 16, .int .i64 x.k, .int .i64 x.n, .string x.s, .string x.nm, .slice A x.args.length c])] [] [] h a w := hJ.to (by kernel_rfl) (by kernel_rfl) rfl
            refine rx hJ false 82 [.own, .own, .b 1 0, .b 1 0, .cl 108 #[.map (some b), .agg #[.int .i64 16, .int .i64 x.k, .int .i64 x.n, .string x.s, .string x.nm, .slice A x.args.length c]] (.tuple #[.agg #[.int .i64 fk, .int .i64 fn, .string fs], .bool false]), .own, .b 0 0, .b 0 0, .b 1 0] [] (.new fun b1 => .new fun b2 => .new fun b3 => .ok (.out .ret) [] [(4, .pointer (some ⟨b2, 0, none⟩))] [.box b3 [.int .i64 fk, .int .i64 fn, .string fs], .box b2 [.int .i64 fk, .int .i64 fn, .string fs], .box b1 [.int .i64 16, .int .i64 x.k, .int .i64 x.n, .string x.s, .string x.nm, .slice A x.args.length c]] []) (And.intro (fun H sH => hf _ (hx.sees sH) (hmp.sees sH)) (trivial)) trivial (fun b1 b2 b3 _ => by kernel_rfl) ?_
            clear hJ a w; intro b1 b2 b3 a w hJ
            refine x_end (hQ [.agg #[.int .i64 fk, .int .i64 fn, .string fs]] _ [] hJ (.rcell hJ.j 1 rfl (by kernel_rfl) (by kernel_rfl) .nil) (no_own _) rfl ?_).1
            exact rfl
          | true =>
            obtain ⟨e1, e2, e3⟩ := hfk rfl
            rw [← e1] at e2 e3
            simp only at e2 e3
            subst e2
            rcases e3 with rfl | rfl
            · rw [if_neg (by simp)] at hev
              rw [hev]
              refine x_con Try.func73 (c := Try.f73.body.getD .skip) (by kernel_rfl) (N := 93) rfl (by kernel_rfl) ?_
              intro hbx hbad Q hQ a w hJ
              replace hJ : K ⟨93, h.w, h.bad, []⟩ [(0, .map (some b)), (1, .agg #[.int .i64 16, .int .i64 x.k, .int .i64 x.n, .string x.s, .string x.nm, .slice A x.args.length c])] [] [] h a w := hJ.to (by kernel_rfl) (by kernel_rfl) rfl
              refine rx hJ false 79 [.own, .own, .b 1 0, .b 1 0, .cl 108 #[.map (some b), .agg #[.int .i64 16, .int .i64 x.k, .int .i64 x.n, .string x.s, .string x.nm, .slice A x.args.length c]] (.tuple #[.agg #[.int .i64 2, .int .i64 0, .string fs], .bool true]), .own, .b 0 0, .b 0 1, .b 2 0, .b 2 5] [] (.new fun b1 => .new fun b2 => .new fun b3 => .ok (.ops [0, 1, 1, 0, 1, 1, 1, 1, 1, 0, 1, 0, 1] 3) [.seq [1, 1, 1, 0, 1, 1, 1, 1, 1, 0, 1, 0, 1], .block 0, .seq [1, 1]] [(0, .map (some b)), (3, .pointer (some ⟨b1, 0, none⟩)), (4, .pointer (some ⟨b2, 0, none⟩)), (52, .map (some b)), (54, .slice A x.args.length c)] [.box b3 [.int .i64 2, .int .i64 0, .string fs], .box b2 [.int .i64 0, .int .i64 0, .string ⟨#[]⟩], .box b1 [.int .i64 16, .int .i64 x.k, .int .i64 x.n, .string x.s, .string x.nm, .slice A x.args.length c]] []) (And.intro (fun H sH => hf _ (hx.sees sH) (hmp.sees sH)) (trivial)) trivial (fun b1 b2 b3 _ => by kernel_rfl) ?_
              clear hJ a w; intro b1 b2 b3 a w hJ
              obtain ⟨b4, o5, rfl, -, c6⟩ := RS.row hr (hrow1)
              replace hJ := hJ.fact (c6.sees (Sees.refl _))
              refine rx hJ false 9 [.ix b4 o5 x.args.length c 1, .f 0 0, .cl 109 #[.map (some b), .agg #[.int .i64 y1.op, .int .i64 y1.k, .int .i64 y1.n, .string y1.s, .string y1.nm, .slice A1 n1 c1]] (.agg #[.int .i64 ((boolV (evalE env y1)).k), .int .i64 ((boolV (evalE env y1)).n), .string ((boolV (evalE env y1)).s)]), .b 1 0] [] (.ok (.out .ret) [] [(4, .pointer (some ⟨b2, 0, none⟩))] [.box b3 [.int .i64 2, .int .i64 0, .string fs], .box b2 [.int .i64 ((boolV (evalE env y1)).k), .int .i64 ((boolV (evalE env y1)).n), .string ((boolV (evalE env y1)).s)], .box b1 [.int .i64 16, .int .i64 x.k, .int .i64 x.n, .string x.s, .string x.nm, .slice (some ⟨b4, o5, none⟩) x.args.length c]] [(b4, o5 + 1 * 6, [.int .i64 y1.op, .int .i64 y1.k, .int .i64 y1.n, .string y1.s, .string y1.nm, .slice A1 n1 c1])]) (And.intro (by first | omega | (simp; omega)) (And.intro (fun H sH => hb _ (hi1.sees sH) (hmp.sees sH)) (trivial))) trivial (fun _ => by kernel_rfl) ?_
              clear hJ a w; intro a w hJ
              refine x_end (hQ [.agg #[.int .i64 ((boolV (evalE env y1)).k), .int .i64 ((boolV (evalE env y1)).n), .string ((boolV (evalE env y1)).s)]] _ [] hJ (.rcell hJ.j 1 rfl (by kernel_rfl) (by kernel_rfl) .nil) (no_own _) rfl ?_).1
              exact rfl
            · rw [if_pos (.inr (by decide))] at hev
              rw [hev]
              refine x_con Try.func73 (c := Try.f73.body.getD .skip) (by kernel_rfl) (N := 93) rfl (by kernel_rfl) ?_
              intro hbx hbad Q hQ a w hJ
              replace hJ : K ⟨93, h.w, h.bad, []⟩ [(0, .map (some b)), (1, .agg #[.int .i64 16, .int .i64 x.k, .int .i64 x.n, .string x.s, .string x.nm, .slice A x.args.length c])] [] [] h a w := hJ.to (by kernel_rfl) (by kernel_rfl) rfl
              refine rx hJ false 82 [.own, .own, .b 1 0, .b 1 0, .cl 108 #[.map (some b), .agg #[.int .i64 16, .int .i64 x.k, .int .i64 x.n, .string x.s, .string x.nm, .slice A x.args.length c]] (.tuple #[.agg #[.int .i64 2, .int .i64 1, .string fs], .bool true]), .own, .b 0 0, .b 0 1, .b 2 0, .b 0 0, .b 1 0] [] (.new fun b1 => .new fun b2 => .new fun b3 => .ok (.out .ret) [] [(4, .pointer (some ⟨b2, 0, none⟩))] [.box b3 [.int .i64 2, .int .i64 1, .string fs], .box b2 [.int .i64 2, .int .i64 1, .string fs], .box b1 [.int .i64 16, .int .i64 x.k, .int .i64 x.n, .string x.s, .string x.nm, .slice A x.args.length c]] []) (And.intro (fun H sH => hf _ (hx.sees sH) (hmp.sees sH)) (trivial)) trivial (fun b1 b2 b3 _ => by kernel_rfl) ?_
              clear hJ a w; intro b1 b2 b3 a w hJ
              refine x_end (hQ [.agg #[.int .i64 2, .int .i64 1, .string fs]] _ [] hJ (.rcell hJ.j 1 rfl (by kernel_rfl) (by kernel_rfl) .nil) (no_own _) rfl ?_).1
              exact rfl
      · by_cases h17 : x.op = 17
        · have ha : x.args.length = 3 := by rw [h7, h17]; rfl
          obtain ⟨y0, A0, n0, c0, hy0, -, -⟩ := args_at hvs (i := 0) (by omega)
          obtain ⟨y1, A1, n1, c1, hy1, hi1, hrow1⟩ := args_at hvs (i := 1) (by omega)
          obtain ⟨y2, A2, n2, c2, hy2, hi2, hrow2⟩ := args_at hvs (i := 2) (by omega)
          have ok0 := hok y0 (List.mem_of_getElem? hy0)
          have ho1 := hof y1 (List.mem_of_getElem? hy1)
          have ho2 := hof y2 (List.mem_of_getElem? hy2)
          have hf := fun H q1 q2 => first_any env b x y0 (.slice A x.args.length c) H q1 q2 hy0 hof ok0
          rw [if_neg h15, if_pos h17, hd_eval hy0, hd_eval hy1, hd_eval hy2] at hev
          have hfk := first_known ok0
          generalize hF : firstV (evalE env y0) = f at *
          obtain ⟨⟨fk, fn, fs⟩, fb⟩ := f
          simp only at hev hfk hf
          rw [h17] at hf ⊢
          cases fb with
          | false =>
            rw [if_pos rfl] at hev
            rw [hev]
            refine x_con Try.func73 (c := Try.f73.body.getD .skip) (by kernel_rfl) (N := 93) rfl (by kernel_rfl) ?_
            intro hbx hbad Q hQ a w hJ
            replace hJ : K ⟨93, h.w, h.bad, []⟩ [(0, .map (some b)), (1, .agg #[.int .i64 17, .int .i64 x.k, .int .i64 x.n, .string x.s, .string x.nm, .slice A x.args.length c])] [] [] h a w := hJ.to (by kernel_rfl) (by kernel_rfl) rfl
            refine rx hJ false 80 [.own, .own, .b 1 0, .b 1 0, .cl 108 #[.map (some b), .agg #[.int .i64 17, .int .i64 x.k, .int .i64 x.n, .string x.s, .string x.nm, .slice A x.args.length c]] (.tuple #[.agg #[.int .i64 fk, .int .i64 fn, .string fs], .bool false]), .own, .b 0 0, .b 0 0, .b 1 0] [] (.new fun b1 => .new fun b2 => .new fun b3 => .ok (.out .ret) [] [(4, .pointer (some ⟨b2, 0, none⟩))] [.box b3 [.int .i64 fk, .int .i64 fn, .string fs], .box b2 [.int .i64 fk, .int .i64 fn, .string fs], .box b1 [.int .i64 17, .int .i64 x.k, .int .i64 x.n, .string x.s, .string x.nm, .slice A x.args.length c]] []) (And.intro (fun H sH => hf _ (hx.sees sH) (hmp.sees sH)) (trivial)) trivial (fun b1 b2 b3 _ => by kernel_rfl) ?_
            clear hJ a w; intro b1 b2 b3 a w hJ
            refine x_end (hQ [.agg #[.int .i64 fk, .int .i64 fn, .string fs]] _ [] hJ (.rcell hJ.j 1 rfl (by kernel_rfl) (by kernel_rfl) .nil) (no_own _) rfl ?_).1
            exact rfl
          | true =>
            rw [if_neg (by simp)] at hev
            obtain ⟨e1, e2, e3⟩ := hfk rfl
            rw [← e1] at e2 e3
            simp only at e2 e3
            subst e2
            rcases e3 with rfl | rfl
            · rw [if_neg (by decide)] at hev
              rw [hev]
              refine x_con Try.func73 (c := Try.f73.body.getD .skip) (by kernel_rfl) (N := 93) rfl (by kernel_rfl) ?_
              intro hbx hbad Q hQ a w hJ
              replace hJ : K ⟨93, h.w, h.bad, []⟩ [(0, .map (some b)), (1, .agg #[.int .i64 17, .int .i64 x.k, .int .i64 x.n, .string x.s, .string x.nm, .slice A x.args.length c])] [] [] h a w := hJ.to (by kernel_rfl) (by kernel_rfl) rfl
              refine rx hJ false 80 [.own, .own, .b 1 0, .b 1 0, .cl 108 #[.map (some b), .agg #[.int .i64 17, .int .i64 x.k, .int .i64 x.n, .string x.s, .string x.nm, .slice A x.args.length c]] (.tuple #[.agg #[.int .i64 2, .int .i64 0, .string fs], .bool true]), .own, .b 0 0, .b 2 5, .b 0 1] [] (.new fun b1 => .new fun b2 => .new fun b3 => .ok (.ops [0, 1, 1, 0, 1, 1, 1, 1, 1, 1, 1, 0, 1, 0, 1] 6) [.seq [1, 1, 1, 0, 1, 1, 1, 1, 1, 1, 1, 0, 1, 0, 1], .block 0, .seq [1, 1]] [(0, .map (some b)), (3, .pointer (some ⟨b1, 0, none⟩)), (4, .pointer (some ⟨b2, 0, none⟩)), (69, .map (some b)), (71, .slice A x.args.length c), (74, .int .i64 2)] [.box b3 [.int .i64 2, .int .i64 0, .string fs], .box b2 [.int .i64 0, .int .i64 0, .string ⟨#[]⟩], .box b1 [.int .i64 17, .int .i64 x.k, .int .i64 x.n, .string x.s, .string x.nm, .slice A x.args.length c]] []) (And.intro (fun H sH => hf _ (hx.sees sH) (hmp.sees sH)) (trivial)) trivial (fun b1 b2 b3 _ => by kernel_rfl) ?_
              clear hJ a w; intro b1 b2 b3 a w hJ
              obtain ⟨b4, o5, rfl, -, c6⟩ := RS.row hr (hrow2)
              replace hJ := hJ.fact (c6.sees (Sees.refl _))
              refine rx hJ false 9 [.ix b4 o5 x.args.length c 2, .f 0 0, .cl 73 #[.map (some b), .agg #[.int .i64 y2.op, .int .i64 y2.k, .int .i64 y2.n, .string y2.s, .string y2.nm, .slice A2 n2 c2]] (.agg #[.int .i64 ((evalE env y2).k), .int .i64 ((evalE env y2).n), .string ((evalE env y2).s)]), .b 1 0] [] (.ok (.out .ret) [] [(4, .pointer (some ⟨b2, 0, none⟩))] [.box b3 [.int .i64 2, .int .i64 0, .string fs], .box b2 [.int .i64 ((evalE env y2).k), .int .i64 ((evalE env y2).n), .string ((evalE env y2).s)], .box b1 [.int .i64 17, .int .i64 x.k, .int .i64 x.n, .string x.s, .string x.nm, .slice (some ⟨b4, o5, none⟩) x.args.length c]] [(b4, o5 + 2 * 6, [.int .i64 y2.op, .int .i64 y2.k, .int .i64 y2.n, .string y2.s, .string y2.nm, .slice A2 n2 c2])]) (And.intro (by first | omega | (simp; omega)) (And.intro (fun H sH => ho2 _ _ (hi2.sees sH) (hmp.sees sH)) (trivial))) trivial (fun _ => by kernel_rfl) ?_
              clear hJ a w; intro a w hJ
              refine x_end (hQ [.agg #[.int .i64 ((evalE env y2).k), .int .i64 ((evalE env y2).n), .string ((evalE env y2).s)]] _ [] hJ (.rcell hJ.j 1 rfl (by kernel_rfl) (by kernel_rfl) .nil) (no_own _) rfl ?_).1
              exact rfl
            · rw [if_pos rfl] at hev
              rw [hev]
              refine x_con Try.func73 (c := Try.f73.body.getD .skip) (by kernel_rfl) (N := 93) rfl (by kernel_rfl) ?_
              intro hbx hbad Q hQ a w hJ
              replace hJ : K ⟨93, h.w, h.bad, []⟩ [(0, .map (some b)), (1, .agg #[.int .i64 17, .int .i64 x.k, .int .i64 x.n, .string x.s, .string x.nm, .slice A x.args.length c])] [] [] h a w := hJ.to (by kernel_rfl) (by kernel_rfl) rfl
              refine rx hJ false 80 [.own, .own, .b 1 0, .b 1 0, .cl 108 #[.map (some b), .agg #[.int .i64 17, .int .i64 x.k, .int .i64 x.n, .string x.s, .string x.nm, .slice A x.args.length c]] (.tuple #[.agg #[.int .i64 2, .int .i64 1, .string fs], .bool true]), .own, .b 0 0, .b 2 5, .b 0 1] [] (.new fun b1 => .new fun b2 => .new fun b3 => .ok (.ops [0, 1, 1, 0, 1, 1, 1, 1, 1, 1, 1, 0, 1, 0, 1] 6) [.seq [1, 1, 1, 0, 1, 1, 1, 1, 1, 1, 1, 0, 1, 0, 1], .block 0, .seq [1, 1]] [(0, .map (some b)), (3, .pointer (some ⟨b1, 0, none⟩)), (4, .pointer (some ⟨b2, 0, none⟩)), (69, .map (some b)), (71, .slice A x.args.length c), (74, .int .i64 1)] [.box b3 [.int .i64 2, .int .i64 1, .string fs], .box b2 [.int .i64 0, .int .i64 0, .string ⟨#[]⟩], .box b1 [.int .i64 17, .int .i64 x.k, .int .i64 x.n, .string x.s, .string x.nm, .slice A x.args.length c]] []) (And.intro (fun H sH => hf _ (hx.sees sH) (hmp.sees sH)) (trivial)) trivial (fun b1 b2 b3 _ => by kernel_rfl) ?_
              clear hJ a w; intro b1 b2 b3 a w hJ
              obtain ⟨b4, o5, rfl, -, c6⟩ := RS.row hr (hrow1)
              replace hJ := hJ.fact (c6.sees (Sees.refl _))
              refine rx hJ false 9 [.ix b4 o5 x.args.length c 1, .f 0 0, .cl 73 #[.map (some b), .agg #[.int .i64 y1.op, .int .i64 y1.k, .int .i64 y1.n, .string y1.s, .string y1.nm, .slice A1 n1 c1]] (.agg #[.int .i64 ((evalE env y1).k), .int .i64 ((evalE env y1).n), .string ((evalE env y1).s)]), .b 1 0] [] (.ok (.out .ret) [] [(4, .pointer (some ⟨b2, 0, none⟩))] [.box b3 [.int .i64 2, .int .i64 1, .string fs], .box b2 [.int .i64 ((evalE env y1).k), .int .i64 ((evalE env y1).n), .string ((evalE env y1).s)], .box b1 [.int .i64 17, .int .i64 x.k, .int .i64 x.n, .string x.s, .string x.nm, .slice (some ⟨b4, o5, none⟩) x.args.length c]] [(b4, o5 + 1 * 6, [.int .i64 y1.op, .int .i64 y1.k, .int .i64 y1.n, .string y1.s, .string y1.nm, .slice A1 n1 c1])]) (And.intro (by first | omega | (simp; omega)) (And.intro (fun H sH => ho1 _ _ (hi1.sees sH) (hmp.sees sH)) (trivial))) trivial (fun _ => by kernel_rfl) ?_
              clear hJ a w; intro a w hJ
              refine x_end (hQ [.agg #[.int .i64 ((evalE env y1).k), .int .i64 ((evalE env y1).n), .string ((evalE env y1).s)]] _ [] hJ (.rcell hJ.j 1 rfl (by kernel_rfl) (by kernel_rfl) .nil) (no_own _) rfl ?_).1
              exact rfl
        · rw [if_neg h15, if_neg h17] at hev
          have hall := fun H q1 q2 => all_any env b x (.slice A x.args.length c) H q1 q2 hof (by omega)
          have hlv : (evalL env x.args).length = arity x.op := by rw [evalL_map, List.length_map, h7]
          have hvk : ∀ v ∈ evalL env x.args, OkV v := fun v hv => by
            rw [evalL_map] at hv
            obtain ⟨y, hy, rfl⟩ := List.mem_map.1 hv
            exact hok y hy
          rcases hk : lackV none (evalL env x.args) with _ | u
          · rw [hk] at hev hall
            obtain ⟨-, g⟩ := lack_none hk
            have hap2 := fun sl H q => apply_any x.op (evalL env x.args) sl H q (fun v hv => ok_known (hvk v hv) (g v hv).2 (g v hv).1) h1 h2 (by omega) (by omega) h17 hlv
            rw [hev]
            refine x_con Try.func73 (c := Try.f73.body.getD .skip) (by kernel_rfl) (N := 93) rfl (by kernel_rfl) ?_
            intro hbx hbad Q hQ a w hJ
            replace hJ : K ⟨93, h.w, h.bad, []⟩ [(0, .map (some b)), (1, .agg #[.int .i64 x.op, .int .i64 x.k, .int .i64 x.n, .string x.s, .string x.nm, .slice A x.args.length c])] [] [] h a w := hJ.to (by kernel_rfl) (by kernel_rfl) rfl
            refine rx hJ false 57 [.own, .own, .b 1 0, .b 1 5] [(16, .bool (x.op == 1), .bool false), (20, .bool (x.op == 2), .bool false), (32, .bool (x.op == 15), .bool false), (33, .bool (x.op == 16), .bool false), (59, .bool (x.op == 17), .bool false)] (.new fun b1 => .new fun b2 => .ok (.ops [0, 1, 1] 3) [.seq [1, 1, 1]] [(3, .pointer (some ⟨b1, 0, none⟩)), (4, .pointer (some ⟨b2, 0, none⟩)), (79, .map (some b)), (81, .slice A x.args.length c)] [.box b2 [.int .i64 0, .int .i64 0, .string ⟨#[]⟩], .box b1 [.int .i64 x.op, .int .i64 x.k, .int .i64 x.n, .string x.s, .string x.nm, .slice A x.args.length c]] []) trivial (And.intro (congrArg Value.bool (beq_eq_false_iff_ne.2 (by omega))) (And.intro (congrArg Value.bool (beq_eq_false_iff_ne.2 (by omega))) (And.intro (congrArg Value.bool (beq_eq_false_iff_ne.2 (by omega))) (And.intro (congrArg Value.bool (beq_eq_false_iff_ne.2 (by omega))) (And.intro (congrArg Value.bool (beq_eq_false_iff_ne.2 (by omega))) (trivial)))))) (fun b1 b2 _ => by kernel_rfl) ?_
            clear hJ a w; intro b1 b2 a w hJ
            refine x_call hJ 82 (hall _ (hx.sees hJ.j.sees) (hmp.sees hJ.j.sees)) (fun _ => by kernel_rfl) ?_; clear hJ a w; rintro _ h3 a w s4 ⟨Aq, nq, cq, uq, rfl, rfl, hq⟩ hJ
            refine rx hJ false 24 [.own, .b 0 0, .b 0 0, .b 2 0] [] (.new fun b5 => .ok (.ops [0, 1, 1, 1, 1] 3) [.seq [1, 1, 1, 1, 1]] [(4, .pointer (some ⟨b2, 0, none⟩)), (90, .int .i64 x.op), (91, .slice Aq nq cq)] [.box b5 [.int .i64 0, .int .i64 0, .string ⟨#[]⟩], .box b2 [.int .i64 0, .int .i64 0, .string ⟨#[]⟩], .box b1 [.int .i64 x.op, .int .i64 x.k, .int .i64 x.n, .string x.s, .string x.nm, .slice A x.args.length c]] []) trivial trivial (fun b5 _ => by kernel_rfl) ?_
            clear hJ a w; intro b5 a w hJ
            have hq2 := (hq rfl).2
            refine rx hJ false 5 [.cl 111 #[.int .i64 x.op, .slice Aq nq cq] (.agg #[.int .i64 ((applyV x.op (evalL env x.args)).k), .int .i64 ((applyV x.op (evalL env x.args)).n), .string ((applyV x.op (evalL env x.args)).s)]), .b 1 0] [] (.ok (.out .ret) [] [(4, .pointer (some ⟨b2, 0, none⟩))] [.box b5 [.int .i64 0, .int .i64 0, .string ⟨#[]⟩], .box b2 [.int .i64 ((applyV x.op (evalL env x.args)).k), .int .i64 ((applyV x.op (evalL env x.args)).n), .string ((applyV x.op (evalL env x.args)).s)], .box b1 [.int .i64 x.op, .int .i64 x.k, .int .i64 x.n, .string x.s, .string x.nm, .slice A x.args.length c]] []) (And.intro (fun H sH => hap2 _ _ (hq2.sees sH)) (trivial)) trivial (fun _ => by kernel_rfl) ?_
            clear hJ a w; intro a w hJ
            refine x_end (hQ [.agg #[.int .i64 ((applyV x.op (evalL env x.args)).k), .int .i64 ((applyV x.op (evalL env x.args)).n), .string ((applyV x.op (evalL env x.args)).s)]] _ [] hJ (.rcell hJ.j 1 rfl (by kernel_rfl) (by kernel_rfl) .nil) (no_own _) rfl ?_).1
            exact rfl
          · rw [hk] at hev hall
            obtain ⟨hu45, -⟩ := lack_some hk (fun w hw => by cases hw)
            rw [hev]
            refine x_con Try.func73 (c := Try.f73.body.getD .skip) (by kernel_rfl) (N := 93) rfl (by kernel_rfl) ?_
            intro hbx hbad Q hQ a w hJ
            replace hJ : K ⟨93, h.w, h.bad, []⟩ [(0, .map (some b)), (1, .agg #[.int .i64 x.op, .int .i64 x.k, .int .i64 x.n, .string x.s, .string x.nm, .slice A x.args.length c])] [] [] h a w := hJ.to (by kernel_rfl) (by kernel_rfl) rfl
            refine rx hJ false 57 [.own, .own, .b 1 0, .b 1 5] [(16, .bool (x.op == 1), .bool false), (20, .bool (x.op == 2), .bool false), (32, .bool (x.op == 15), .bool false), (33, .bool (x.op == 16), .bool false), (59, .bool (x.op == 17), .bool false)] (.new fun b1 => .new fun b2 => .ok (.ops [0, 1, 1] 3) [.seq [1, 1, 1]] [(3, .pointer (some ⟨b1, 0, none⟩)), (4, .pointer (some ⟨b2, 0, none⟩)), (79, .map (some b)), (81, .slice A x.args.length c)] [.box b2 [.int .i64 0, .int .i64 0, .string ⟨#[]⟩], .box b1 [.int .i64 x.op, .int .i64 x.k, .int .i64 x.n, .string x.s, .string x.nm, .slice A x.args.length c]] []) trivial (And.intro (congrArg Value.bool (beq_eq_false_iff_ne.2 (by omega))) (And.intro (congrArg Value.bool (beq_eq_false_iff_ne.2 (by omega))) (And.intro (congrArg Value.bool (beq_eq_false_iff_ne.2 (by omega))) (And.intro (congrArg Value.bool (beq_eq_false_iff_ne.2 (by omega))) (And.intro (congrArg Value.bool (beq_eq_false_iff_ne.2 (by omega))) (trivial)))))) (fun b1 b2 _ => by kernel_rfl) ?_
            clear hJ a w; intro b1 b2 a w hJ
            refine x_call hJ 82 (hall _ (hx.sees hJ.j.sees) (hmp.sees hJ.j.sees)) (fun _ => by kernel_rfl) ?_; clear hJ a w; rintro _ h3 a w s4 ⟨Aq, nq, cq, uq, rfl, rfl, hq⟩ hJ
            refine rx hJ false 25 [.own, .b 0 0, .b 0 0, .b 0 0, .b 1 0] [(87, .bool (u.k != 0), .bool true)] (.new fun b5 => .ok (.out .ret) [] [(4, .pointer (some ⟨b2, 0, none⟩))] [.box b5 [.int .i64 u.k, .int .i64 u.n, .string u.s], .box b2 [.int .i64 u.k, .int .i64 u.n, .string u.s], .box b1 [.int .i64 x.op, .int .i64 x.k, .int .i64 x.n, .string x.s, .string x.nm, .slice A x.args.length c]] []) trivial (And.intro (congrArg Value.bool (bne_iff_ne.2 (by omega))) (trivial)) (fun b5 _ => by kernel_rfl) ?_
            clear hJ a w; intro b5 a w hJ
            refine x_end (hQ [.agg #[.int .i64 u.k, .int .i64 u.n, .string u.s]] _ [] hJ (.rcell hJ.j 1 rfl (by kernel_rfl) (by kernel_rfl) .nil) (no_own _) rfl ?_).1
            exact rfl

end Go.Proofs.Ytgjndkphfabnnaa

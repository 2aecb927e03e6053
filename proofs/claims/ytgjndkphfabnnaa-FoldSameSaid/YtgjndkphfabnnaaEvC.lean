/-
  The contracts of eval's machine: what formulas are.
-/
import Derived.Test.YtgjndkphfabnnaaEvB
namespace Go.Proofs.Ytgjndkphfabnnaa
open Go.RowKit

abbrev envEs (env : Env) : List (Value × Value) := strEs (env.map fun p => (p.1, p.2.val))
theorem sget_env (s : ByteArray) : ∀ env : Env, sget s (env.map fun p => (p.1, p.2.val)) = (env.get s).map Vl.val
  | [] => rfl
  | (k, v) :: l => by
    simp only [List.map_cons]
    unfold sget Env.get
    cases s == k
    · simp only [Bool.false_eq_true, if_false]; exact sget_env s l
    · rfl
def EnvOk (env : Env) : Prop := ∀ s v, env.get s = some v → OkV v

theorem arity_pos {op : Int} (h1 : 3 ≤ op) (h2 : op ≤ 18) : 1 ≤ arity op ∧ arity op ≤ 3 := by
  unfold arity
  rw [if_neg (by omega)]
  repeat' split
  all_goals omega
theorem applyV_ok {op : Int} {l : List Vl} (hk : ∀ v ∈ l, v.known) (hl : 1 ≤ l.length) (hl2 : op = 10 ∨ (5 ≤ op ∧ op ≤ 9) → 2 ≤ l.length) (h3 : 3 ≤ op) (h18 : op ≤ 18) (hx : op ≠ 15 ∧ op ≠ 16 ∧ op ≠ 17) : OkV (applyV op l) := by
  have h0 : hdV l 0 ∈ l := by
    cases l with
    | nil => simp at hl
    | cons x l => exact List.mem_cons_self
  have h1 : 2 ≤ l.length → hdV l 1 ∈ l := fun h => by
    cases l with
    | nil => simp at h
    | cons x l =>
      cases l with
      | nil => simp at h
      | cons y l => simp [hdV]
  unfold applyV
  split
  · split
    · exact ok_truth _
    · exact ok_fault (by omega) (by omega)
  · split
    · split
      · exact ok_truth _
      · exact ok_fault (by omega) (by omega)
    · split
      · split
        · rename_i hq
          have := known_texts hk hq _ h0
          exact .inl (.inl ⟨rfl, by unfold Lim; simp only; omega, rfl⟩)
        · exact ok_fault (by omega) (by omega)
      · split
        · rename_i h10
          split
          · rename_i hq
            have k0 := hk _ h0
            have k1 := hk _ (h1 (hl2 (.inl h10)))
            have e0 : (hdV l 0).k = 3 := by unfold kindsV at hq; rw [List.all_eq_true] at hq; simpa using hq _ h0
            have e1 : (hdV l 1).k = 3 := by unfold kindsV at hq; rw [List.all_eq_true] at hq; simpa using hq _ (h1 (hl2 (.inl h10)))
            generalize hdV l 0 = x at *
            generalize hdV l 1 = y at *
            unfold joinV
            split
            · exact ok_fault (by omega) (by omega)
            · rename_i hc
              rcases k0 with g | g | g
              · omega
              · omega
              · rcases k1 with q | q | q
                · omega
                · omega
                · refine .inl (.inr (.inr ⟨rfl, rfl, by simp [ByteArray.size_append]; omega, fun i hi => ?_⟩))
                  have hs : (x.s ++ y.s).size = x.s.size + y.s.size := ByteArray.size_append ..
                  have hi' : i < x.s.size + y.s.size := by rw [← hs]; exact hi
                  show 32 ≤ (x.s ++ y.s)[i].toNat ∧ _
                  by_cases hlt : i < x.s.size
                  · rw [ByteArray.getElem_append_left hlt]; exact g.2.2.2 i hlt
                  · rw [ByteArray.getElem_append_right (by omega)]; exact q.2.2.2 _ (by omega)
          · exact ok_fault (by omega) (by omega)
        · split
          · split
            · rename_i hq
              exact nrV_ok (by unfold Lim; omega) (known_nums hk hq _ h0)
            · exact ok_fault (by omega) (by omega)
          · split
            · rename_i hq
              exact nrV_ok (known_nums hk hq _ h0) (known_nums hk hq _ (h1 (hl2 (.inr (by omega)))))
            · exact ok_fault (by omega) (by omega)
theorem lack_some {u : Vl} : ∀ {l : List Vl} {p : Option Vl}, lackV p l = some u → (∀ w, p = some w → w.k = 4) → (u.k = 5 ∨ u.k = 4) ∧ (p = some u ∨ u ∈ l)
  | [], p, h, hp => by
    unfold lackV at h
    exact ⟨.inr (hp u h), .inl h⟩
  | v :: l, p, h, hp => by
    unfold lackV at h
    split at h
    · simp only [Option.some.injEq] at h; subst h; rename_i h5; exact ⟨.inl h5, .inr (by simp)⟩
    · by_cases h4 : v.k = 4
      · rw [if_pos h4] at h
        obtain ⟨h1, h2⟩ := lack_some h (fun w hw => by simp only [Option.some.injEq] at hw; subst hw; exact h4)
        refine ⟨h1, .inr ?_⟩
        rcases h2 with h2 | h2
        · simp only [Option.some.injEq] at h2; subst h2; simp
        · simp [h2]
      · rw [if_neg h4] at h
        obtain ⟨h1, h2⟩ := lack_some h hp
        exact ⟨h1, h2.imp id (fun k => by simp [k])⟩
theorem lack_none : ∀ {l : List Vl} {p : Option Vl}, lackV p l = none → p = none ∧ ∀ v ∈ l, v.k ≠ 5 ∧ v.k ≠ 4
  | [], p, h => ⟨h, fun v hv => by cases hv⟩
  | v :: l, p, h => by
    unfold lackV at h
    split at h
    · cases h
    · rename_i h5
      obtain ⟨h1, h2⟩ := lack_none h
      by_cases h4 : v.k = 4
      · rw [if_pos h4] at h1; cases h1
      · rw [if_neg h4] at h1
        refine ⟨h1, fun u hu => ?_⟩
        rcases List.mem_cons.1 hu with rfl | hu
        · exact ⟨h5, h4⟩
        · exact h2 u hu
theorem firstV_ok {v : Vl} (h : OkV v) : OkV (firstV v).1 := by
  unfold firstV
  split
  · exact ok_fault (by omega) (by omega)
  · exact h
theorem boolV_ok {v : Vl} (h : OkV v) : OkV (boolV v) := by
  unfold boolV
  split
  · exact ok_fault (by omega) (by omega)
  · exact h
theorem hdV_mem {l : List Vl} {i : Nat} (h : i < l.length) : hdV l i ∈ l := by
  unfold hdV
  rw [List.getD_eq_getElem?_getD, List.getElem?_eq_getElem h]
  exact List.getElem_mem h
/-- What a formula is may be. -/
theorem evalE_ok {env : Env} (he : EnvOk env) : ∀ (m : Nat) (x : Ex), (szE x).1 ≤ m → WfE x → OkV (evalE env x)
  | 0, x, h, _ => by have := szE_pos x; omega
  | m + 1, x, h, hw => by
    have hsz := szE_eq x
    rw [hsz] at h
    simp only at h
    have hl : ∀ v ∈ evalL env x.args, OkV v := by
      intro v hv
      rw [evalL_map] at hv
      obtain ⟨y, hy, rfl⟩ := List.mem_map.1 hv
      exact evalE_ok he m y (by have := (szL_mem hy).1; omega) (hw.list.get hy)
    have hlen : (evalL env x.args).length = x.args.length := by rw [evalL_map, List.length_map]
    rw [evalE_eq]
    rcases hw.top with ⟨h1, h2, h3, h4, h5⟩ | ⟨h1, h2, h3, h4, h5, h6⟩ | ⟨h1, h2, h3, h4, h5, h6, h7⟩
    · rw [if_pos h1]; exact .inl h2
    · rw [if_neg (by omega), if_pos h1]
      cases hg : env.get x.nm with
      | none => exact ok_fault (by omega) (by omega)
      | some v => exact he _ _ hg
    · rw [if_neg (by omega), if_neg (by omega)]
      have hap := arity_pos h1 h2
      split
      · rename_i hq
        have ha : arity x.op = 2 := by unfold arity; rw [if_neg (by omega), if_neg (by omega), if_neg (by omega)]
        split
        · exact firstV_ok (hl _ (hdV_mem (by omega)))
        · exact boolV_ok (hl _ (hdV_mem (by omega)))
      · split
        · rename_i hq
          have ha : arity x.op = 3 := by rw [hq]; rfl
          split
          · exact firstV_ok (hl _ (hdV_mem (by omega)))
          · split
            · exact hl _ (hdV_mem (by omega))
            · exact hl _ (hdV_mem (by omega))
        · rename_i n1 n2
          cases hk : lackV none (evalL env x.args) with
          | some u =>
            obtain ⟨-, g⟩ := lack_some hk (fun w hw => by cases hw)
            rcases g with g | g
            · cases g
            · exact hl u g
          | none =>
            obtain ⟨-, g⟩ := lack_none hk
            refine applyV_ok (fun v hv => ok_known (hl v hv) (g v hv).2 (g v hv).1) (by omega) (fun hq => ?_) h1 h2 ⟨by omega, by omega, by omega⟩
            have ha : arity x.op = 2 := by
              unfold arity
              rw [if_neg (by omega), if_neg (by omega), if_neg (by omega)]
            omega

/-- What is told of the formulas l, ahead of a call. -/
def OfAll (env : Env) (b : Nat) (l : List Ex) : Prop := ∀ y ∈ l, ∀ v h, IsArgs h y v → MapAt h b (envEs env) → C0 Try.prog 73 #[.map (some b), .agg #[.int .i64 y.op, .int .i64 y.k, .int .i64 y.n, .string y.s, .string y.nm, v]] h (fun r _ => r = (evalE env y).val)

set_option maxRecDepth 100000 in
theorem first_any (env : Env) (b : Nat) (x y : Ex) (sl : Value) (h : Vw) (hx : IsArgs h x sl) (hm : MapAt h b (envEs env)) (hy : x.args[0]? = some y) (hof : OfAll env b x.args) (hok : OkV (evalE env y)) :
    C0 Try.prog 108 #[.map (some b), .agg #[.int .i64 x.op, .int .i64 x.k, .int .i64 x.n, .string x.s, .string x.nm, sl]] h (fun r _ => r = .tuple #[(firstV (evalE env y)).1.val, .bool (firstV (evalE env y)).2]) := by
  obtain ⟨vs, hr, hvs⟩ := hx.form
  obtain ⟨A, c, rfl, -, -, -⟩ := hr.form
  have hvl := hvs.len
  have hrl := exRows_len hvl
  have hlt := (List.getElem?_eq_some_iff.1 hy).1
  rw [hrl] at hr ⊢
  have ho := hof y (List.mem_of_getElem? hy)
  obtain ⟨u, hu⟩ : ∃ u, vs[0]? = some u := ⟨_, List.getElem?_eq_getElem (by omega)⟩
  have hyu := AllArgs.get hvs hy hu
  obtain ⟨Au, nu, cu, rfl⟩ := hyu.slice
  have hrow : (exRows x.args vs)[0]? = some (exRow y (.slice Au nu cu)) := by show (List.zipWith exRow _ _)[0]? = _; rw [List.getElem?_zipWith, hy, hu]
  have hk := ok_kinds hok
  generalize x.args.length = len at *
  generalize evalE env y = e at *
  obtain ⟨ek, en, es⟩ := e
  obtain rfl | rfl | rfl | rfl | rfl : ek = 1 ∨ ek = 2 ∨ ek = 3 ∨ ek = 4 ∨ ek = 5 := by simp only at hk; omega
  · refine x_con Try.func108 (c := Try.f108.body.getD .skip) (by kernel_rfl) (N := 31) rfl (by kernel_rfl) ?_
    intro hbx hbad Q hQ a w hJ
    replace hJ : K ⟨31, h.w, h.bad, []⟩ [(0, .map (some b)), (1, .agg #[.int .i64 x.op, .int .i64 x.k, .int .i64 x.n, .string x.s, .string x.nm, .slice A len c])] [] [] h a w := hJ.to (by kernel_rfl) (by kernel_rfl) rfl
    refine rx hJ false 12 [.own, .own, .b 1 5] [] (.new fun b1 => .new fun b2 => .ok (.ops [0, 1] 3) [.seq [1, 1]] [(4, .pointer (some ⟨b2, 0, none⟩)), (5, .bool false), (7, .map (some b)), (9, .slice A len c)] [.box b2 [.int .i64 0, .int .i64 0, .string ⟨#[]⟩], .box b1 [.int .i64 x.op, .int .i64 x.k, .int .i64 x.n, .string x.s, .string x.nm, .slice A len c]] []) trivial trivial (fun b1 b2 _ => by kernel_rfl) ?_
    clear hJ a w; intro b1 b2 a w hJ
    obtain ⟨b3, o4, rfl, -, c5⟩ := RS.row hr (hrow)
    replace hJ := hJ.fact (c5.sees (Sees.refl _))
    refine rx hJ false 35 [.ix b3 o4 len c 0, .f 0 0, .cl 73 #[.map (some b), .agg #[.int .i64 y.op, .int .i64 y.k, .int .i64 y.n, .string y.s, .string y.nm, .slice Au nu cu]] (.agg #[.int .i64 1, .int .i64 en, .string es]), .own, .b 0 0, .b 0 0, .b 0 0, .b 0 0, .cl 107 #[.int .i64 9] (.agg #[.int .i64 5, .int .i64 9, .string ⟨#[]⟩]), .b 1 0] [] (.new fun b6 => .ok (.out .ret) [] [(4, .pointer (some ⟨b2, 0, none⟩)), (5, .bool false)] [.box b6 [.int .i64 1, .int .i64 en, .string es], .box b2 [.int .i64 5, .int .i64 9, .string ⟨#[]⟩], .box b1 [.int .i64 x.op, .int .i64 x.k, .int .i64 x.n, .string x.s, .string x.nm, .slice (some ⟨b3, o4, none⟩) len c]] [(b3, o4 + 0 * 6, [.int .i64 y.op, .int .i64 y.k, .int .i64 y.n, .string y.s, .string y.nm, .slice Au nu cu])]) (And.intro (by first | omega | (simp; omega)) (And.intro (fun H sH => ho _ _ (hyu.sees sH) (hm.sees sH)) (And.intro (fun H sH => fault_any 9 _) (trivial)))) trivial (fun b6 _ => by kernel_rfl) ?_
    clear hJ a w; intro b6 a w hJ
    refine x_end (hQ [.agg #[.int .i64 5, .int .i64 9, .string ⟨#[]⟩], .bool false] _ [] hJ (.rcell hJ.j 1 rfl (by kernel_rfl) (by kernel_rfl) (.rtmp hJ.j (by kernel_rfl) .nil)) (no_own _) rfl ?_).1
    exact rfl
  · refine x_con Try.func108 (c := Try.f108.body.getD .skip) (by kernel_rfl) (N := 31) rfl (by kernel_rfl) ?_
    intro hbx hbad Q hQ a w hJ
    replace hJ : K ⟨31, h.w, h.bad, []⟩ [(0, .map (some b)), (1, .agg #[.int .i64 x.op, .int .i64 x.k, .int .i64 x.n, .string x.s, .string x.nm, .slice A len c])] [] [] h a w := hJ.to (by kernel_rfl) (by kernel_rfl) rfl
    refine rx hJ false 12 [.own, .own, .b 1 5] [] (.new fun b1 => .new fun b2 => .ok (.ops [0, 1] 3) [.seq [1, 1]] [(4, .pointer (some ⟨b2, 0, none⟩)), (5, .bool false), (7, .map (some b)), (9, .slice A len c)] [.box b2 [.int .i64 0, .int .i64 0, .string ⟨#[]⟩], .box b1 [.int .i64 x.op, .int .i64 x.k, .int .i64 x.n, .string x.s, .string x.nm, .slice A len c]] []) trivial trivial (fun b1 b2 _ => by kernel_rfl) ?_
    clear hJ a w; intro b1 b2 a w hJ
    obtain ⟨b3, o4, rfl, -, c5⟩ := RS.row hr (hrow)
    replace hJ := hJ.fact (c5.sees (Sees.refl _))
    refine rx hJ false 29 [.ix b3 o4 len c 0, .f 0 0, .cl 73 #[.map (some b), .agg #[.int .i64 y.op, .int .i64 y.k, .int .i64 y.n, .string y.s, .string y.nm, .slice Au nu cu]] (.agg #[.int .i64 2, .int .i64 en, .string es]), .own, .b 0 0, .b 0 0] [] (.new fun b6 => .ok (.code [0, 1, 1, 1]) [.seq [1, 1, 1, 1]] [(4, .pointer (some ⟨b2, 0, none⟩)), (5, .bool false), (6, .pointer (some ⟨b6, 0, none⟩))] [.box b6 [.int .i64 2, .int .i64 en, .string es], .box b2 [.int .i64 0, .int .i64 0, .string ⟨#[]⟩], .box b1 [.int .i64 x.op, .int .i64 x.k, .int .i64 x.n, .string x.s, .string x.nm, .slice (some ⟨b3, o4, none⟩) len c]] [(b3, o4 + 0 * 6, [.int .i64 y.op, .int .i64 y.k, .int .i64 y.n, .string y.s, .string y.nm, .slice Au nu cu])]) (And.intro (by first | omega | (simp; omega)) (And.intro (fun H sH => ho _ _ (hyu.sees sH) (hm.sees sH)) (trivial))) trivial (fun b6 _ => by kernel_rfl) ?_
    clear hJ a w; intro b6 a w hJ
    let R : Reg := ⟨⟨31, h.w, h.bad, []⟩, [(0, 27, fun gh => .agg #[.int .i64 2, .int .i64 en, .string es]), (1, 28, fun gh => .pointer (some ⟨b6, 0, none⟩)), (2, 29, fun gh => .int .i64 2), (3, 30, fun gh => .bool true), (5, 5, fun gh => .bool true)], [(4, .pointer (some ⟨b2, 0, none⟩)), (5, .bool false), (6, .pointer (some ⟨b6, 0, none⟩))], [⟨some (.box b6 [.int .i64 2, .int .i64 en, .string es]), []⟩, ⟨some (.box b2 [.int .i64 0, .int .i64 0, .string ⟨#[]⟩]), [(4, fun gh => .box b2 [.int .i64 2, .int .i64 en, .string es])]⟩, ⟨some (.box b1 [.int .i64 x.op, .int .i64 x.k, .int .i64 x.n, .string x.s, .string x.nm, .slice (some ⟨b3, o4, none⟩) len c]), []⟩], [], [[], [], [1], [1, 2], [0], [0, 1, 2, 3, 4]], h⟩
    have hmono : ∀ zq ∈ R.F, ∀ zx zh zi, Sees zh zi → zq.2 zx zh → zq.2 zx zi := mono_nil
    refine x_region (by kernel_rfl) R hJ 6 [.ld 0 0, .pu, .ld 0 0, .pu, .st 1 0, .pu] (by kernel_rfl) hmono (fun _ _ _ => by kernel_rfl) (fun hT hA => ?_) ?_
    · trivial
    clear hJ a w; intro gh h7 a w sR hJ1 hF; have s8 : Sees h h7 := sR; clear sR
    have hJ : K ⟨31, h.w, h.bad, []⟩ [(4, .pointer (some ⟨b2, 0, none⟩)), (5, .bool true)] [.box b6 [.int .i64 2, .int .i64 en, .string es], .box b2 [.int .i64 2, .int .i64 en, .string es], .box b1 [.int .i64 x.op, .int .i64 x.k, .int .i64 x.n, .string x.s, .string x.nm, .slice (some ⟨b3, o4, none⟩) len c]] [(b3, o4 + 0 * 6, [.int .i64 y.op, .int .i64 y.k, .int .i64 y.n, .string y.s, .string y.nm, .slice Au nu cu])] h7 a w := hJ1.to (by kernel_rfl) (by kernel_rfl) rfl
    clear hJ1 hF hmono R
    clear gh
    refine rx hJ false 2 [] [] (.ok (.out .ret) [] [(4, .pointer (some ⟨b2, 0, none⟩)), (5, .bool true)] [.box b6 [.int .i64 2, .int .i64 en, .string es], .box b2 [.int .i64 2, .int .i64 en, .string es], .box b1 [.int .i64 x.op, .int .i64 x.k, .int .i64 x.n, .string x.s, .string x.nm, .slice (some ⟨b3, o4, none⟩) len c]] [(b3, o4 + 0 * 6, [.int .i64 y.op, .int .i64 y.k, .int .i64 y.n, .string y.s, .string y.nm, .slice Au nu cu])]) trivial trivial (fun _ => by kernel_rfl) ?_
    clear hJ a w; intro a w hJ
    refine x_end (hQ [.agg #[.int .i64 2, .int .i64 en, .string es], .bool true] _ [] hJ (.rcell hJ.j 1 rfl (by kernel_rfl) (by kernel_rfl) (.rtmp hJ.j (by kernel_rfl) .nil)) (no_own _) rfl ?_).1
    exact rfl
  · refine x_con Try.func108 (c := Try.f108.body.getD .skip) (by kernel_rfl) (N := 31) rfl (by kernel_rfl) ?_
    intro hbx hbad Q hQ a w hJ
    replace hJ : K ⟨31, h.w, h.bad, []⟩ [(0, .map (some b)), (1, .agg #[.int .i64 x.op, .int .i64 x.k, .int .i64 x.n, .string x.s, .string x.nm, .slice A len c])] [] [] h a w := hJ.to (by kernel_rfl) (by kernel_rfl) rfl
    refine rx hJ false 12 [.own, .own, .b 1 5] [] (.new fun b1 => .new fun b2 => .ok (.ops [0, 1] 3) [.seq [1, 1]] [(4, .pointer (some ⟨b2, 0, none⟩)), (5, .bool false), (7, .map (some b)), (9, .slice A len c)] [.box b2 [.int .i64 0, .int .i64 0, .string ⟨#[]⟩], .box b1 [.int .i64 x.op, .int .i64 x.k, .int .i64 x.n, .string x.s, .string x.nm, .slice A len c]] []) trivial trivial (fun b1 b2 _ => by kernel_rfl) ?_
    clear hJ a w; intro b1 b2 a w hJ
    obtain ⟨b3, o4, rfl, -, c5⟩ := RS.row hr (hrow)
    replace hJ := hJ.fact (c5.sees (Sees.refl _))
    refine rx hJ false 35 [.ix b3 o4 len c 0, .f 0 0, .cl 73 #[.map (some b), .agg #[.int .i64 y.op, .int .i64 y.k, .int .i64 y.n, .string y.s, .string y.nm, .slice Au nu cu]] (.agg #[.int .i64 3, .int .i64 en, .string es]), .own, .b 0 0, .b 0 0, .b 0 0, .b 0 0, .cl 107 #[.int .i64 9] (.agg #[.int .i64 5, .int .i64 9, .string ⟨#[]⟩]), .b 1 0] [] (.new fun b6 => .ok (.out .ret) [] [(4, .pointer (some ⟨b2, 0, none⟩)), (5, .bool false)] [.box b6 [.int .i64 3, .int .i64 en, .string es], .box b2 [.int .i64 5, .int .i64 9, .string ⟨#[]⟩], .box b1 [.int .i64 x.op, .int .i64 x.k, .int .i64 x.n, .string x.s, .string x.nm, .slice (some ⟨b3, o4, none⟩) len c]] [(b3, o4 + 0 * 6, [.int .i64 y.op, .int .i64 y.k, .int .i64 y.n, .string y.s, .string y.nm, .slice Au nu cu])]) (And.intro (by first | omega | (simp; omega)) (And.intro (fun H sH => ho _ _ (hyu.sees sH) (hm.sees sH)) (And.intro (fun H sH => fault_any 9 _) (trivial)))) trivial (fun b6 _ => by kernel_rfl) ?_
    clear hJ a w; intro b6 a w hJ
    refine x_end (hQ [.agg #[.int .i64 5, .int .i64 9, .string ⟨#[]⟩], .bool false] _ [] hJ (.rcell hJ.j 1 rfl (by kernel_rfl) (by kernel_rfl) (.rtmp hJ.j (by kernel_rfl) .nil)) (no_own _) rfl ?_).1
    exact rfl
  · refine x_con Try.func108 (c := Try.f108.body.getD .skip) (by kernel_rfl) (N := 31) rfl (by kernel_rfl) ?_
    intro hbx hbad Q hQ a w hJ
    replace hJ : K ⟨31, h.w, h.bad, []⟩ [(0, .map (some b)), (1, .agg #[.int .i64 x.op, .int .i64 x.k, .int .i64 x.n, .string x.s, .string x.nm, .slice A len c])] [] [] h a w := hJ.to (by kernel_rfl) (by kernel_rfl) rfl
    refine rx hJ false 12 [.own, .own, .b 1 5] [] (.new fun b1 => .new fun b2 => .ok (.ops [0, 1] 3) [.seq [1, 1]] [(4, .pointer (some ⟨b2, 0, none⟩)), (5, .bool false), (7, .map (some b)), (9, .slice A len c)] [.box b2 [.int .i64 0, .int .i64 0, .string ⟨#[]⟩], .box b1 [.int .i64 x.op, .int .i64 x.k, .int .i64 x.n, .string x.s, .string x.nm, .slice A len c]] []) trivial trivial (fun b1 b2 _ => by kernel_rfl) ?_
    clear hJ a w; intro b1 b2 a w hJ
    obtain ⟨b3, o4, rfl, -, c5⟩ := RS.row hr (hrow)
    replace hJ := hJ.fact (c5.sees (Sees.refl _))
    refine rx hJ false 29 [.ix b3 o4 len c 0, .f 0 0, .cl 73 #[.map (some b), .agg #[.int .i64 y.op, .int .i64 y.k, .int .i64 y.n, .string y.s, .string y.nm, .slice Au nu cu]] (.agg #[.int .i64 4, .int .i64 en, .string es]), .own, .b 0 0, .b 0 0, .b 0 0] [] (.new fun b6 => .ok (.code [0, 1, 1, 1]) [.seq [1, 1, 1, 1]] [(4, .pointer (some ⟨b2, 0, none⟩)), (5, .bool false), (6, .pointer (some ⟨b6, 0, none⟩))] [.box b6 [.int .i64 4, .int .i64 en, .string es], .box b2 [.int .i64 0, .int .i64 0, .string ⟨#[]⟩], .box b1 [.int .i64 x.op, .int .i64 x.k, .int .i64 x.n, .string x.s, .string x.nm, .slice (some ⟨b3, o4, none⟩) len c]] [(b3, o4 + 0 * 6, [.int .i64 y.op, .int .i64 y.k, .int .i64 y.n, .string y.s, .string y.nm, .slice Au nu cu])]) (And.intro (by first | omega | (simp; omega)) (And.intro (fun H sH => ho _ _ (hyu.sees sH) (hm.sees sH)) (trivial))) trivial (fun b6 _ => by kernel_rfl) ?_
    clear hJ a w; intro b6 a w hJ
    let R : Reg := ⟨⟨31, h.w, h.bad, []⟩, [(0, 27, fun gh => .agg #[.int .i64 4, .int .i64 en, .string es]), (1, 28, fun gh => .pointer (some ⟨b6, 0, none⟩)), (2, 29, fun gh => .int .i64 4), (3, 30, fun gh => .bool false), (5, 5, fun gh => .bool false)], [(4, .pointer (some ⟨b2, 0, none⟩)), (5, .bool false), (6, .pointer (some ⟨b6, 0, none⟩))], [⟨some (.box b6 [.int .i64 4, .int .i64 en, .string es]), []⟩, ⟨some (.box b2 [.int .i64 0, .int .i64 0, .string ⟨#[]⟩]), [(4, fun gh => .box b2 [.int .i64 4, .int .i64 en, .string es])]⟩, ⟨some (.box b1 [.int .i64 x.op, .int .i64 x.k, .int .i64 x.n, .string x.s, .string x.nm, .slice (some ⟨b3, o4, none⟩) len c]), []⟩], [], [[], [], [1], [1, 2], [0], [0, 1, 2, 3, 4]], h⟩
    have hmono : ∀ zq ∈ R.F, ∀ zx zh zi, Sees zh zi → zq.2 zx zh → zq.2 zx zi := mono_nil
    refine x_region (by kernel_rfl) R hJ 6 [.ld 0 0, .pu, .ld 0 0, .pu, .st 1 0, .pu] (by kernel_rfl) hmono (fun _ _ _ => by kernel_rfl) (fun hT hA => ?_) ?_
    · trivial
    clear hJ a w; intro gh h7 a w sR hJ1 hF; have s8 : Sees h h7 := sR; clear sR
    have hJ : K ⟨31, h.w, h.bad, []⟩ [(4, .pointer (some ⟨b2, 0, none⟩)), (5, .bool false)] [.box b6 [.int .i64 4, .int .i64 en, .string es], .box b2 [.int .i64 4, .int .i64 en, .string es], .box b1 [.int .i64 x.op, .int .i64 x.k, .int .i64 x.n, .string x.s, .string x.nm, .slice (some ⟨b3, o4, none⟩) len c]] [(b3, o4 + 0 * 6, [.int .i64 y.op, .int .i64 y.k, .int .i64 y.n, .string y.s, .string y.nm, .slice Au nu cu])] h7 a w := hJ1.to (by kernel_rfl) (by kernel_rfl) rfl
    clear hJ1 hF hmono R
    clear gh
    refine rx hJ false 2 [] [] (.ok (.out .ret) [] [(4, .pointer (some ⟨b2, 0, none⟩)), (5, .bool false)] [.box b6 [.int .i64 4, .int .i64 en, .string es], .box b2 [.int .i64 4, .int .i64 en, .string es], .box b1 [.int .i64 x.op, .int .i64 x.k, .int .i64 x.n, .string x.s, .string x.nm, .slice (some ⟨b3, o4, none⟩) len c]] [(b3, o4 + 0 * 6, [.int .i64 y.op, .int .i64 y.k, .int .i64 y.n, .string y.s, .string y.nm, .slice Au nu cu])]) trivial trivial (fun _ => by kernel_rfl) ?_
    clear hJ a w; intro a w hJ
    refine x_end (hQ [.agg #[.int .i64 4, .int .i64 en, .string es], .bool false] _ [] hJ (.rcell hJ.j 1 rfl (by kernel_rfl) (by kernel_rfl) (.rtmp hJ.j (by kernel_rfl) .nil)) (no_own _) rfl ?_).1
    exact rfl
  · refine x_con Try.func108 (c := Try.f108.body.getD .skip) (by kernel_rfl) (N := 31) rfl (by kernel_rfl) ?_
    intro hbx hbad Q hQ a w hJ
    replace hJ : K ⟨31, h.w, h.bad, []⟩ [(0, .map (some b)), (1, .agg #[.int .i64 x.op, .int .i64 x.k, .int .i64 x.n, .string x.s, .string x.nm, .slice A len c])] [] [] h a w := hJ.to (by kernel_rfl) (by kernel_rfl) rfl
    refine rx hJ false 12 [.own, .own, .b 1 5] [] (.new fun b1 => .new fun b2 => .ok (.ops [0, 1] 3) [.seq [1, 1]] [(4, .pointer (some ⟨b2, 0, none⟩)), (5, .bool false), (7, .map (some b)), (9, .slice A len c)] [.box b2 [.int .i64 0, .int .i64 0, .string ⟨#[]⟩], .box b1 [.int .i64 x.op, .int .i64 x.k, .int .i64 x.n, .string x.s, .string x.nm, .slice A len c]] []) trivial trivial (fun b1 b2 _ => by kernel_rfl) ?_
    clear hJ a w; intro b1 b2 a w hJ
    obtain ⟨b3, o4, rfl, -, c5⟩ := RS.row hr (hrow)
    replace hJ := hJ.fact (c5.sees (Sees.refl _))
    refine rx hJ false 29 [.ix b3 o4 len c 0, .f 0 0, .cl 73 #[.map (some b), .agg #[.int .i64 y.op, .int .i64 y.k, .int .i64 y.n, .string y.s, .string y.nm, .slice Au nu cu]] (.agg #[.int .i64 5, .int .i64 en, .string es]), .own, .b 0 0, .b 0 0, .b 0 0, .b 0 0] [] (.new fun b6 => .ok (.code [0, 1, 1, 1]) [.seq [1, 1, 1, 1]] [(4, .pointer (some ⟨b2, 0, none⟩)), (5, .bool false), (6, .pointer (some ⟨b6, 0, none⟩))] [.box b6 [.int .i64 5, .int .i64 en, .string es], .box b2 [.int .i64 0, .int .i64 0, .string ⟨#[]⟩], .box b1 [.int .i64 x.op, .int .i64 x.k, .int .i64 x.n, .string x.s, .string x.nm, .slice (some ⟨b3, o4, none⟩) len c]] [(b3, o4 + 0 * 6, [.int .i64 y.op, .int .i64 y.k, .int .i64 y.n, .string y.s, .string y.nm, .slice Au nu cu])]) (And.intro (by first | omega | (simp; omega)) (And.intro (fun H sH => ho _ _ (hyu.sees sH) (hm.sees sH)) (trivial))) trivial (fun b6 _ => by kernel_rfl) ?_
    clear hJ a w; intro b6 a w hJ
    let R : Reg := ⟨⟨31, h.w, h.bad, []⟩, [(0, 27, fun gh => .agg #[.int .i64 5, .int .i64 en, .string es]), (1, 28, fun gh => .pointer (some ⟨b6, 0, none⟩)), (2, 29, fun gh => .int .i64 5), (3, 30, fun gh => .bool false), (5, 5, fun gh => .bool false)], [(4, .pointer (some ⟨b2, 0, none⟩)), (5, .bool false), (6, .pointer (some ⟨b6, 0, none⟩))], [⟨some (.box b6 [.int .i64 5, .int .i64 en, .string es]), []⟩, ⟨some (.box b2 [.int .i64 0, .int .i64 0, .string ⟨#[]⟩]), [(4, fun gh => .box b2 [.int .i64 5, .int .i64 en, .string es])]⟩, ⟨some (.box b1 [.int .i64 x.op, .int .i64 x.k, .int .i64 x.n, .string x.s, .string x.nm, .slice (some ⟨b3, o4, none⟩) len c]), []⟩], [], [[], [], [1], [1, 2], [0], [0, 1, 2, 3, 4]], h⟩
    have hmono : ∀ zq ∈ R.F, ∀ zx zh zi, Sees zh zi → zq.2 zx zh → zq.2 zx zi := mono_nil
    refine x_region (by kernel_rfl) R hJ 6 [.ld 0 0, .pu, .ld 0 0, .pu, .st 1 0, .pu] (by kernel_rfl) hmono (fun _ _ _ => by kernel_rfl) (fun hT hA => ?_) ?_
    · trivial
    clear hJ a w; intro gh h7 a w sR hJ1 hF; have s8 : Sees h h7 := sR; clear sR
    have hJ : K ⟨31, h.w, h.bad, []⟩ [(4, .pointer (some ⟨b2, 0, none⟩)), (5, .bool false)] [.box b6 [.int .i64 5, .int .i64 en, .string es], .box b2 [.int .i64 5, .int .i64 en, .string es], .box b1 [.int .i64 x.op, .int .i64 x.k, .int .i64 x.n, .string x.s, .string x.nm, .slice (some ⟨b3, o4, none⟩) len c]] [(b3, o4 + 0 * 6, [.int .i64 y.op, .int .i64 y.k, .int .i64 y.n, .string y.s, .string y.nm, .slice Au nu cu])] h7 a w := hJ1.to (by kernel_rfl) (by kernel_rfl) rfl
    clear hJ1 hF hmono R
    clear gh
    refine rx hJ false 2 [] [] (.ok (.out .ret) [] [(4, .pointer (some ⟨b2, 0, none⟩)), (5, .bool false)] [.box b6 [.int .i64 5, .int .i64 en, .string es], .box b2 [.int .i64 5, .int .i64 en, .string es], .box b1 [.int .i64 x.op, .int .i64 x.k, .int .i64 x.n, .string x.s, .string x.nm, .slice (some ⟨b3, o4, none⟩) len c]] [(b3, o4 + 0 * 6, [.int .i64 y.op, .int .i64 y.k, .int .i64 y.n, .string y.s, .string y.nm, .slice Au nu cu])]) trivial trivial (fun _ => by kernel_rfl) ?_
    clear hJ a w; intro a w hJ
    refine x_end (hQ [.agg #[.int .i64 5, .int .i64 en, .string es], .bool false] _ [] hJ (.rcell hJ.j 1 rfl (by kernel_rfl) (by kernel_rfl) (.rtmp hJ.j (by kernel_rfl) .nil)) (no_own _) rfl ?_).1
    exact rfl

set_option maxRecDepth 100000 in
theorem bool_any (env : Env) (b : Nat) (x : Ex) (sl : Value) (h : Vw) (hx : IsArgs h x sl) (hm : MapAt h b (envEs env)) (ho : ∀ v h, IsArgs h x v → MapAt h b (envEs env) → C0 Try.prog 73 #[.map (some b), .agg #[.int .i64 x.op, .int .i64 x.k, .int .i64 x.n, .string x.s, .string x.nm, v]] h (fun r _ => r = (evalE env x).val)) (hok : OkV (evalE env x)) :
    C0 Try.prog 109 #[.map (some b), .agg #[.int .i64 x.op, .int .i64 x.k, .int .i64 x.n, .string x.s, .string x.nm, sl]] h (fun r _ => r = (boolV (evalE env x)).val) := by
  obtain ⟨A, len, c, rfl⟩ := hx.slice
  have hk := ok_kinds hok
  generalize evalE env x = e at *
  obtain ⟨ek, en, es⟩ := e
  obtain rfl | rfl | rfl | rfl | rfl : ek = 1 ∨ ek = 2 ∨ ek = 3 ∨ ek = 4 ∨ ek = 5 := by simp only at hk; omega
  · refine x_con Try.func109 (c := Try.f109.body.getD .skip) (by kernel_rfl) (N := 19) rfl (by kernel_rfl) ?_
    intro hbx hbad Q hQ a w hJ
    replace hJ : K ⟨19, h.w, h.bad, []⟩ [(0, .map (some b)), (1, .agg #[.int .i64 x.op, .int .i64 x.k, .int .i64 x.n, .string x.s, .string x.nm, .slice A len c])] [] [] h a w := hJ.to (by kernel_rfl) (by kernel_rfl) rfl
    refine rx hJ false 37 [.own, .own, .b 1 0, .cl 73 #[.map (some b), .agg #[.int .i64 x.op, .int .i64 x.k, .int .i64 x.n, .string x.s, .string x.nm, .slice A len c]] (.agg #[.int .i64 1, .int .i64 en, .string es]), .own, .b 0 0, .b 0 0, .cl 107 #[.int .i64 9] (.agg #[.int .i64 5, .int .i64 9, .string ⟨#[]⟩]), .b 1 0] [] (.new fun b1 => .new fun b2 => .new fun b3 => .ok (.out .ret) [] [(4, .pointer (some ⟨b2, 0, none⟩))] [.box b3 [.int .i64 1, .int .i64 en, .string es], .box b2 [.int .i64 5, .int .i64 9, .string ⟨#[]⟩], .box b1 [.int .i64 x.op, .int .i64 x.k, .int .i64 x.n, .string x.s, .string x.nm, .slice A len c]] []) (And.intro (fun H sH => ho _ _ (hx.sees sH) (hm.sees sH)) (And.intro (fun H sH => fault_any 9 _) (trivial))) trivial (fun b1 b2 b3 _ => by kernel_rfl) ?_
    clear hJ a w; intro b1 b2 b3 a w hJ
    refine x_end (hQ [.agg #[.int .i64 5, .int .i64 9, .string ⟨#[]⟩]] _ [] hJ (.rcell hJ.j 1 rfl (by kernel_rfl) (by kernel_rfl) .nil) (no_own _) rfl ?_).1
    exact rfl
  · refine x_con Try.func109 (c := Try.f109.body.getD .skip) (by kernel_rfl) (N := 19) rfl (by kernel_rfl) ?_
    intro hbx hbad Q hQ a w hJ
    replace hJ : K ⟨19, h.w, h.bad, []⟩ [(0, .map (some b)), (1, .agg #[.int .i64 x.op, .int .i64 x.k, .int .i64 x.n, .string x.s, .string x.nm, .slice A len c])] [] [] h a w := hJ.to (by kernel_rfl) (by kernel_rfl) rfl
    refine rx hJ false 38 [.own, .own, .b 1 0, .cl 73 #[.map (some b), .agg #[.int .i64 x.op, .int .i64 x.k, .int .i64 x.n, .string x.s, .string x.nm, .slice A len c]] (.agg #[.int .i64 2, .int .i64 en, .string es]), .own, .b 0 0, .b 0 0, .b 0 0, .b 0 0, .b 1 0] [] (.new fun b1 => .new fun b2 => .new fun b3 => .ok (.out .ret) [] [(4, .pointer (some ⟨b2, 0, none⟩))] [.box b3 [.int .i64 2, .int .i64 en, .string es], .box b2 [.int .i64 2, .int .i64 en, .string es], .box b1 [.int .i64 x.op, .int .i64 x.k, .int .i64 x.n, .string x.s, .string x.nm, .slice A len c]] []) (And.intro (fun H sH => ho _ _ (hx.sees sH) (hm.sees sH)) (trivial)) trivial (fun b1 b2 b3 _ => by kernel_rfl) ?_
    clear hJ a w; intro b1 b2 b3 a w hJ
    refine x_end (hQ [.agg #[.int .i64 2, .int .i64 en, .string es]] _ [] hJ (.rcell hJ.j 1 rfl (by kernel_rfl) (by kernel_rfl) .nil) (no_own _) rfl ?_).1
    exact rfl
  · refine x_con Try.func109 (c := Try.f109.body.getD .skip) (by kernel_rfl) (N := 19) rfl (by kernel_rfl) ?_
    intro hbx hbad Q hQ a w hJ
    replace hJ : K ⟨19, h.w, h.bad, []⟩ [(0, .map (some b)), (1, .agg #[.int .i64 x.op, .int .i64 x.k, .int .i64 x.n, .string x.s, .string x.nm, .slice A len c])] [] [] h a w := hJ.to (by kernel_rfl) (by kernel_rfl) rfl
    refine rx hJ false 37 [.own, .own, .b 1 0, .cl 73 #[.map (some b), .agg #[.int .i64 x.op, .int .i64 x.k, .int .i64 x.n, .string x.s, .string x.nm, .slice A len c]] (.agg #[.int .i64 3, .int .i64 en, .string es]), .own, .b 0 0, .b 0 0, .b 0 0, .cl 107 #[.int .i64 9] (.agg #[.int .i64 5, .int .i64 9, .string ⟨#[]⟩]), .b 1 0] [] (.new fun b1 => .new fun b2 => .new fun b3 => .ok (.out .ret) [] [(4, .pointer (some ⟨b2, 0, none⟩))] [.box b3 [.int .i64 3, .int .i64 en, .string es], .box b2 [.int .i64 5, .int .i64 9, .string ⟨#[]⟩], .box b1 [.int .i64 x.op, .int .i64 x.k, .int .i64 x.n, .string x.s, .string x.nm, .slice A len c]] []) (And.intro (fun H sH => ho _ _ (hx.sees sH) (hm.sees sH)) (And.intro (fun H sH => fault_any 9 _) (trivial))) trivial (fun b1 b2 b3 _ => by kernel_rfl) ?_
    clear hJ a w; intro b1 b2 b3 a w hJ
    refine x_end (hQ [.agg #[.int .i64 5, .int .i64 9, .string ⟨#[]⟩]] _ [] hJ (.rcell hJ.j 1 rfl (by kernel_rfl) (by kernel_rfl) .nil) (no_own _) rfl ?_).1
    exact rfl
  · refine x_con Try.func109 (c := Try.f109.body.getD .skip) (by kernel_rfl) (N := 19) rfl (by kernel_rfl) ?_
    intro hbx hbad Q hQ a w hJ
    replace hJ : K ⟨19, h.w, h.bad, []⟩ [(0, .map (some b)), (1, .agg #[.int .i64 x.op, .int .i64 x.k, .int .i64 x.n, .string x.s, .string x.nm, .slice A len c])] [] [] h a w := hJ.to (by kernel_rfl) (by kernel_rfl) rfl
    refine rx hJ false 38 [.own, .own, .b 1 0, .cl 73 #[.map (some b), .agg #[.int .i64 x.op, .int .i64 x.k, .int .i64 x.n, .string x.s, .string x.nm, .slice A len c]] (.agg #[.int .i64 4, .int .i64 en, .string es]), .own, .b 0 0, .b 0 0, .b 0 0, .b 0 0, .b 1 0] [] (.new fun b1 => .new fun b2 => .new fun b3 => .ok (.out .ret) [] [(4, .pointer (some ⟨b2, 0, none⟩))] [.box b3 [.int .i64 4, .int .i64 en, .string es], .box b2 [.int .i64 4, .int .i64 en, .string es], .box b1 [.int .i64 x.op, .int .i64 x.k, .int .i64 x.n, .string x.s, .string x.nm, .slice A len c]] []) (And.intro (fun H sH => ho _ _ (hx.sees sH) (hm.sees sH)) (trivial)) trivial (fun b1 b2 b3 _ => by kernel_rfl) ?_
    clear hJ a w; intro b1 b2 b3 a w hJ
    refine x_end (hQ [.agg #[.int .i64 4, .int .i64 en, .string es]] _ [] hJ (.rcell hJ.j 1 rfl (by kernel_rfl) (by kernel_rfl) .nil) (no_own _) rfl ?_).1
    exact rfl
  · refine x_con Try.func109 (c := Try.f109.body.getD .skip) (by kernel_rfl) (N := 19) rfl (by kernel_rfl) ?_
    intro hbx hbad Q hQ a w hJ
    replace hJ : K ⟨19, h.w, h.bad, []⟩ [(0, .map (some b)), (1, .agg #[.int .i64 x.op, .int .i64 x.k, .int .i64 x.n, .string x.s, .string x.nm, .slice A len c])] [] [] h a w := hJ.to (by kernel_rfl) (by kernel_rfl) rfl
    refine rx hJ false 38 [.own, .own, .b 1 0, .cl 73 #[.map (some b), .agg #[.int .i64 x.op, .int .i64 x.k, .int .i64 x.n, .string x.s, .string x.nm, .slice A len c]] (.agg #[.int .i64 5, .int .i64 en, .string es]), .own, .b 0 0, .b 0 0, .b 0 0, .b 0 0, .b 1 0] [] (.new fun b1 => .new fun b2 => .new fun b3 => .ok (.out .ret) [] [(4, .pointer (some ⟨b2, 0, none⟩))] [.box b3 [.int .i64 5, .int .i64 en, .string es], .box b2 [.int .i64 5, .int .i64 en, .string es], .box b1 [.int .i64 x.op, .int .i64 x.k, .int .i64 x.n, .string x.s, .string x.nm, .slice A len c]] []) (And.intro (fun H sH => ho _ _ (hx.sees sH) (hm.sees sH)) (trivial)) trivial (fun b1 b2 b3 _ => by kernel_rfl) ?_
    clear hJ a w; intro b1 b2 b3 a w hJ
    refine x_end (hQ [.agg #[.int .i64 5, .int .i64 en, .string es]] _ [] hJ (.rcell hJ.j 1 rfl (by kernel_rfl) (by kernel_rfl) .nil) (no_own _) rfl ?_).1
    exact rfl

end Go.Proofs.Ytgjndkphfabnnaa

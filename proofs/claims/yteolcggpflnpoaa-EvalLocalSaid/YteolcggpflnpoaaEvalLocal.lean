/-
  For all raw things and kinds EvalLocal returns true.
-/
import Derived.Test.YteolcggpflnpoaaEvG
import Derived.Test.YteolcggpflnpoaaEvL
import Derived.Test.YteolcggpflnpoaaNmH
namespace Go.Proofs.Yteolcggpflnpoaa
open Go.RowKit

/-- The facts bs with those of as in the place of the first k that the formula asks for. -/
def mixR (x : Ex) (fa fb : Env) : Nat → Env
  | 0 => fb
  | k + 1 => if hasE x ((mixR x fa fb k).getD k (⟨#[]⟩, zV)).1 then (mixR x fa fb k).set k (fa.getD k (⟨#[]⟩, zV)) else mixR x fa fb k
theorem get_same {s : ByteArray} : ∀ {l m : Env}, l.map (·.1) = m.map (·.1) → (∀ (i : Nat) p q, l[i]? = some p → m[i]? = some q → p.1 = s → p = q) → Env.get l s = Env.get m s
  | [], [], _, _ => rfl
  | [], _ :: _, h, _ => by simp at h
  | _ :: _, [], h, _ => by simp at h
  | (k, v) :: l, (k', v') :: m, h, hp => by
    simp only [List.map_cons, List.cons.injEq] at h
    obtain ⟨rfl, h⟩ := h
    unfold Env.get
    by_cases e : (s == k) = true
    · have := hp 0 (k, v) (k, v') rfl rfl ((Go.MapKept.bytes_beq s k).1 e).symm
      simp only [Prod.mk.injEq, true_and] at this
      rw [if_pos e, if_pos e, this]
    · rw [if_neg e, if_neg e]
      exact get_same h (fun i p q hi hj => hp (i + 1) p q (by simpa using hi) (by simpa using hj))
theorem mix_ok {x : Ex} {fa fb : Env} (hn : fa.map (·.1) = fb.map (·.1)) : ∀ k, k ≤ fb.length → (mixR x fa fb k).map (·.1) = fb.map (·.1) ∧ (∀ i p q, i < k → (mixR x fa fb k)[i]? = some p → fa[i]? = some q → hasE x p.1 = true → p = q) ∧ ∀ p ∈ mixR x fa fb k, p ∈ fa ∨ p ∈ fb
  | 0, _ => ⟨rfl, fun i p q h => absurd h (Nat.not_lt_zero _), fun p hp => .inr hp⟩
  | k + 1, hk => by
    obtain ⟨h1, h2, h3⟩ := mix_ok (x := x) hn k (by omega)
    have hl : (mixR x fa fb k).length = fb.length := by have := congrArg List.length h1; simpa using this
    have hla : fa.length = fb.length := by have := congrArg List.length hn; simpa using this
    obtain ⟨p, hp⟩ : ∃ p, (mixR x fa fb k)[k]? = some p := ⟨_, List.getElem?_eq_getElem (by omega)⟩
    obtain ⟨q, hq⟩ : ∃ q, fa[k]? = some q := ⟨_, List.getElem?_eq_getElem (by omega)⟩
    have ep : (mixR x fa fb k).getD k (⟨#[]⟩, zV) = p := by rw [List.getD_eq_getElem?_getD, hp]; rfl
    have eq : fa.getD k (⟨#[]⟩, zV) = q := by rw [List.getD_eq_getElem?_getD, hq]; rfl
    have hpq : p.1 = q.1 := by
      have e1 := congrArg (fun l => l[k]?) h1
      have e2 := congrArg (fun l => l[k]?) hn
      simp only [List.getElem?_map, hp, hq] at e1 e2
      rw [← e2] at e1
      simpa using e1
    rw [mixR, ep, eq]
    split
    · refine ⟨?_, fun i p' q' hi hp' hq' hh => ?_, fun r hr => ?_⟩
      · rw [← h1]
        refine List.ext_getElem? fun j => ?_
        rw [List.getElem?_map, List.getElem?_map, List.getElem?_set]
        by_cases e : k = j
        · subst e; rw [if_pos rfl, if_pos (by omega), hp]; simp [hpq]
        · simp [e]
      · rw [List.getElem?_set] at hp'
        by_cases e : k = i
        · subst e
          rw [if_pos rfl, if_pos (by omega)] at hp'
          rw [hq] at hq'
          simp only [Option.some.injEq] at hp' hq'
          rw [← hp', ← hq']
        · rw [if_neg e] at hp'
          exact h2 i p' q' (by omega) hp' hq' hh
      · rcases List.mem_or_eq_of_mem_set hr with hr | rfl
        · exact h3 r hr
        · exact .inl (List.mem_of_getElem? hq)
    · rename_i hno
      refine ⟨h1, fun i p' q' hi hp' hq' hh => ?_, h3⟩
      by_cases e : i = k
      · subst e
        rw [hp] at hp'
        simp only [Option.some.injEq] at hp'
        subst hp'
        exact absurd hh hno
      · exact h2 i p' q' (by omega) hp' hq' hh
theorem mix_eval {x : Ex} {fa fb : Env} (hn : fa.map (·.1) = fb.map (·.1)) : evalE (mixR x fa fb fb.length) x = evalE fa x := by
  obtain ⟨h1, h2, -⟩ := mix_ok (x := x) hn fb.length (Nat.le_refl _)
  refine eval_local fun s hs => get_same (h1.trans hn.symm) fun i p q hi hj e => h2 i p q ?_ hi hj (by rw [e]; exact hasE_yes hs)
  have := (List.getElem?_eq_some_iff.1 hi).1
  have hl := congrArg List.length h1
  simp only [List.length_map] at hl
  omega
theorem law_keys (l m : List RawD) : (lawEnv l).map (·.1) = (lawEnv m).map (·.1) := rfl
theorem fcRows_set (l : Env) (k : Nat) (p : ByteArray × Vl) : fcRows (l.set k p) = (fcRows l).set k (fcRow p) := List.map_set
abbrev oneN : Env := [(⟨#[110]⟩, ⟨1, 7, ⟨#[]⟩⟩)]
theorem oneN_ok : NameOk (⟨#[110]⟩ : ByteArray).data.toList := ⟨by decide, by decide, ⟨_, rfl, by decide⟩, by decide, by decide⟩

theorem oneN_row {H : Vw} {b : Nat} (c : Cells H b 0 [.string ⟨#[110]⟩, .int .i64 0, .int .i64 0, .string ⟨#[]⟩, .int .i64 1, .int .i64 7, .string ⟨#[]⟩]) : RS H 7 (.slice (some ⟨b, 0, none⟩) 1 1) (fcRows oneN) :=
  rs_cells (k := 7) (fcRows oneN) (fun r hr => by simp at hr; subst hr; rfl) (by decide) c

set_option maxHeartbeats 4000000 in
set_option maxRecDepth 100000 in
theorem evalLocal_c (l m k : List RawD) (sl sm sk : Value) (kd : Int) (h : Vw) (hl : RS h 4 sl (l.map RawD.cs)) (hm : RS h 4 sm (m.map RawD.cs)) (hk : RS h 4 sk (k.map RawD.cs)) (ll : l.length * 40 ≤ reachBytes) (lm : m.length * 40 ≤ reachBytes) (lk : k.length * 40 ≤ reachBytes)
    (ol : ∀ r ∈ l, r.ok) (om : ∀ r ∈ m, r.ok) (ok : ∀ r ∈ k, r.ok) (k0 : -9223372036854775808 ≤ kd) (k1 : kd ≤ 9223372036854775807) :
    C0 Try.prog 12 #[sl, sm, sk, .int .i64 kd] h (fun v _ => v = .bool true) := by
  have p0 := pickL_lo kd 3 (by omega)
  have p1 := pickL_hi kd 3 (by omega)
  have hpk := c_picked kd 3
  have hE := fun H v q g => expr_any l some5 ll ol (by decide) v g (1 + pickL kd 3) H q
  obtain ⟨xw, x1, x2⟩ := genE_ok l some5 some5_ok 3 (1 + pickL kd 3) 0 (by omega) (by omega)
  generalize (genE l some5 3 (1 + pickL kd 3) 0).1 = x at *
  have x1 : (szE x).1 ≤ 40 := x1
  have hFa := fun H q => lawFacts_any m sm H q lm om
  have hFb := fun H q => lawFacts_own k sk H q lk ok
  have hn := law_keys m k
  have oka := lawEnv_ok m
  have okb := lawEnv_ok k
  have lna := lawEnv_len m
  have lnb := lawEnv_len k
  generalize lawEnv m = fa at *
  generalize lawEnv k = fb at *
  have hme := mix_eval (x := x) hn
  rw [lnb] at hme
  have hmo := fun j hj => mix_ok (x := x) hn j hj
  have hVa := fun H v A c q1 q2 => eval_any x v fa (.slice A 5 c) H q1 xw (by omega) (by omega) q2 oka (by omega)
  have hVb := fun H v A c q1 q2 => eval_any x v (mixR x fa fb 5) (.slice A 5 c) H q1 xw (by omega) (by omega) q2 (fun p hp => ((hmo 5 (by omega)).2.2 p hp).elim (oka p) (okb p)) (by have := congrArg List.length (hmo 5 (by omega)).1; simp only [List.length_map] at this; omega)
  rw [hme] at hVb
  obtain ⟨ow, oz⟩ := wf_ref oneN_ok
  have hV1 := fun H A c q2 => eval_any (refE ⟨#[110]⟩) (.slice none 0 0) oneN (.slice A 1 c) H (args_nil _ _ rfl) ow (by rw [oz]; decide) (by rw [oz]; decide) q2 (fun p hp => by rw [List.mem_singleton.1 hp]; exact .inl (.inl ⟨rfl, (by unfold Lim; decide : Lim 7), rfl⟩)) (by decide)
  rw [show evalE oneN (refE ⟨#[110]⟩) = ⟨1, 7, ⟨#[]⟩⟩ from rfl] at hV1
  have hH := fun H v q s => has_any x v H q xw s
  generalize evalE fa x = val at *
  obtain ⟨A1, cap1, rfl, -, -, -⟩ := hl.form
  obtain ⟨A2, cap2, rfl, -, -, -⟩ := hm.form
  obtain ⟨A3, cap3, rfl, -, -, -⟩ := hk.form
  rw [List.length_map] at *
  rw [List.length_map] at *
  rw [List.length_map] at *
  generalize l.length = n1 at *
  generalize m.length = n2 at *
  generalize k.length = n3 at *
  refine x_con Try.func12 (c := Try.f12.body.getD .skip) (by kernel_rfl) (N := 89) rfl (by kernel_rfl) ?_
  intro hbx hbad Q hQ a w hJ
  replace hJ : K ⟨89, h.w, h.bad, []⟩ [(0, .slice A1 n1 cap1), (1, .slice A2 n2 cap2), (2, .slice A3 n3 cap3), (3, .int .i64 kd)] [] [] h a w := hJ.to (by kernel_rfl) (by kernel_rfl) rfl
  refine rx hJ false 11 [.cl 19 #[.int .i64 kd, .int .i64 3] (.int .i64 (pickL kd 3))] [(22, .int .i64 (IntKind.i64.wrap (1 + (pickL kd 3))), .int .i64 (1 + (pickL kd 3)))] (.ok (.ops [0, 1] 4) [.seq [1, 1]] [(1, .slice A2 n2 cap2), (2, .slice A3 n3 cap3), (8, .bool false), (19, .slice A1 n1 cap1), (22, .int .i64 (1 + (pickL kd 3)))] [] []) (And.intro (fun H sH => hpk _ k0 k1 (by omega) (by omega)) (trivial)) (And.intro (i64_wrap (by omega) (by omega)) (trivial)) (fun _ => by kernel_rfl) ?_
  clear hJ a w; intro a w hJ
  refine x_call hJ 23 (some_any _) (fun _ => by kernel_rfl) ?_; clear hJ a w; rintro _ h1 a w s2 ⟨hfs, bs, rfl⟩ hJ
  refine x_call hJ 24 (hE _ _ (hl.sees (s2.trans hJ.j.sees)) _ (hfs.sees hJ.j.sees) (by omega) (by omega)) (fun _ => by kernel_rfl) ?_; clear hJ a w; rintro _ h3 a w s4 ⟨u, rfl, hx⟩ hJ
  refine rx hJ false 7 [.own, .b 0 0] [] (.new fun b5 => .ok (.ops [0, 1, 1] 1) [.seq [1, 1, 1]] [(2, .slice A3 n3 cap3), (8, .bool false), (9, .pointer (some ⟨b5, 0, none⟩)), (25, .slice A2 n2 cap2)] [.box b5 [.int .i64 x.op, .int .i64 x.k, .int .i64 x.n, .string x.s, .string x.nm, .slice (sA u) (sN u) (sC u)]] []) trivial trivial (fun b5 _ => by kernel_rfl) ?_
  clear hJ a w; intro b5 a w hJ
  refine x_call hJ 26 (hFa _ (hm.sees (s2.trans (s4.trans hJ.j.sees)))) (fun _ => by kernel_rfl) ?_; clear hJ a w; rintro _ h6 a w s7 ⟨Aa, ca, rfl, hra⟩ hJ
  refine rx hJ false 1 [] [] (.ok (.ops [0, 1, 1] 3) [.seq [1, 1, 1]] [(8, .bool false), (9, .pointer (some ⟨b5, 0, none⟩)), (26, .slice Aa 5 ca), (27, .slice A3 n3 cap3)] [.box b5 [.int .i64 x.op, .int .i64 x.k, .int .i64 x.n, .string x.s, .string x.nm, .slice (sA u) (sN u) (sC u)]] []) trivial trivial (fun _ => by kernel_rfl) ?_
  clear hJ a w; intro a w hJ
  refine x_callrow hJ 28 (hFb _ (hk.sees (s2.trans (s4.trans (s7.trans hJ.j.sees))))) (fun _ => by kernel_rfl) ?_; clear hJ a w; rintro _ _ a w ⟨gb, cb, rfl, rfl⟩ hJ
  refine rx hJ false 13 [] [] (.ok (.code [0, 1, 0, 1, 1, 1]) [.block 0, .seq [1, 1, 1, 1]] [(8, .bool false), (9, .pointer (some ⟨b5, 0, none⟩)), (10, .slice Aa 5 ca), (11, .slice (some ⟨gb, 0, none⟩) 5 cb), (30, .int .i64 5), (31, .int .i64 0)] [.row (.slice (some ⟨gb, 0, none⟩) 5 cb) 64 7 (fcRows fb), .box b5 [.int .i64 x.op, .int .i64 x.k, .int .i64 x.n, .string x.s, .string x.nm, .slice (sA u) (sN u) (sC u)]] []) trivial trivial (fun _ => by kernel_rfl) ?_
  clear hJ a w; intro a w hJ
  refine x_loop (fun (j : Nat) a w => ∃ (h8 : Vw) , K ⟨89, h.w, h.bad, []⟩ [(8, .bool false), (9, .pointer (some ⟨b5, 0, none⟩)), (10, .slice Aa 5 ca), (11, .slice (some ⟨gb, 0, none⟩) 5 cb), (30, .int .i64 5), (31, .int .i64 (j : Int))] [.row (.slice (some ⟨gb, 0, none⟩) 5 cb) 64 7 (fcRows (mixR x fa fb j)), .box b5 [.int .i64 x.op, .int .i64 x.k, .int .i64 x.n, .string x.s, .string x.nm, .slice (sA u) (sN u) (sC u)]] [] h8 a w ∧ Sees h6 h8 ∧ (j ≤ 5)) (fun j => 5 - j) (0) (by kernel_rfl) ⟨h6, hJ.to (by kernel_rfl) (by kernel_rfl) rfl, Sees.refl _, Nat.zero_le _⟩ ?_
  clear hJ a w; rintro j a w ⟨h8, hJ, s9, hj⟩
  refine rx hJ false 6 [] [] (.ok (.code [0, 1, 0, 0, 1, 0, 1, 1, 1]) [.seq [1, 1, 0, 0, 1, 0, 1, 1, 1]] [(8, .bool false), (9, .pointer (some ⟨b5, 0, none⟩)), (10, .slice Aa 5 ca), (11, .slice (some ⟨gb, 0, none⟩) 5 cb), (30, .int .i64 5), (31, .int .i64 (j : Int)), (32, .bool (decide ((j : Int) < 5)))] [.row (.slice (some ⟨gb, 0, none⟩) 5 cb) 64 7 (fcRows (mixR x fa fb j)), .box b5 [.int .i64 x.op, .int .i64 x.k, .int .i64 x.n, .string x.s, .string x.nm, .slice (sA u) (sN u) (sC u)]] []) trivial trivial (fun _ => by kernel_rfl) ?_
  clear hJ a w; intro a w hJ
  rcases (by omega : j < 5 ∨ j = 5) with hlt | hje
  · have hmj := hmo j (by omega)
    have hml : (mixR x fa fb j).length = 5 := by have := congrArg List.length hmj.1; simp only [List.length_map] at this; omega
    obtain ⟨p, hp⟩ : ∃ p, (mixR x fa fb j)[j]? = some p := ⟨_, List.getElem?_eq_getElem (by omega)⟩
    obtain ⟨q, hq⟩ : ∃ q, fa[j]? = some q := ⟨_, List.getElem?_eq_getElem (by omega)⟩
    have hrow : (fcRows (mixR x fa fb j))[j]? = some (fcRow p) := by rw [List.getElem?_map, hp]; rfl
    have hrowa : (fcRows fa)[j]? = some (fcRow q) := by rw [List.getElem?_map, hq]; rfl
    have hsucc : mixR x fa fb (j + 1) = if hasE x p.1 then (mixR x fa fb j).set j q else mixR x fa fb j := by
      rw [mixR, List.getD_eq_getElem?_getD, hp, List.getD_eq_getElem?_getD, hq]; rfl
    refine x_true hJ (t := decide ((j : Int) < 5)) (by kernel_rfl) (decide_eq_true (by omega)) ?_
    refine rx hJ false 11 [] [] (.ok (.code [0, 1, 0, 0, 1, 1, 0, 0, 1, 0, 1, 1, 1]) [.seq [1, 1, 0, 0, 1, 1, 0, 0, 1, 0, 1, 1, 1], .block 1, .seq [1, 1, 1, 0, 0, 1, 0, 1, 1, 1]] [(8, .bool false), (9, .pointer (some ⟨b5, 0, none⟩)), (10, .slice Aa 5 ca), (11, .slice (some ⟨gb, 0, none⟩) 5 cb), (30, .int .i64 5), (31, .int .i64 (j : Int)), (32, .bool (decide ((j : Int) < 5))), (33, .int .i64 (j : Int)), (12, .int .i64 (j : Int))] [.row (.slice (some ⟨gb, 0, none⟩) 5 cb) 64 7 (fcRows (mixR x fa fb j)), .box b5 [.int .i64 x.op, .int .i64 x.k, .int .i64 x.n, .string x.s, .string x.nm, .slice (sA u) (sN u) (sC u)]] []) trivial trivial (fun _ => by kernel_rfl) ?_
    clear hJ a w; intro a w hJ
    let R : Reg := ⟨⟨89, h.w, h.bad, []⟩, [(0, 34, fun gh => .agg #[.int .i64 x.op, .int .i64 x.k, .int .i64 x.n, .string x.s, .string x.nm, .slice (sA u) (sN u) (sC u)]), (1, 35, fun gh => .slice (some ⟨gb, 0, none⟩) 5 cb), (2, 36, fun gh => .int .i64 (j : Int)), (3, 37, fun gh => .pointer (some ⟨gb, 0 + j * 7, none⟩)), (4, 38, fun gh => .pointer (some ⟨gb, 0 + j * 7, none⟩)), (5, 39, fun gh => .string p.1), (6, 40, fun gh => .bool (hasE x p.1))], [(8, .bool false), (9, .pointer (some ⟨b5, 0, none⟩)), (10, .slice Aa 5 ca), (11, .slice (some ⟨gb, 0, none⟩) 5 cb), (30, .int .i64 5), (31, .int .i64 (j : Int)), (32, .bool (decide ((j : Int) < 5))), (33, .int .i64 (j : Int)), (12, .int .i64 (j : Int))], [⟨some (.row (.slice (some ⟨gb, 0, none⟩) 5 cb) 64 7 (fcRows (mixR x fa fb j))), []⟩, ⟨some (.box b5 [.int .i64 x.op, .int .i64 x.k, .int .i64 x.n, .string x.s, .string x.nm, .slice (sA u) (sN u) (sC u)]), []⟩], [], [[], [], [], [1, 2], [1, 2, 3], [1, 2, 3, 4], [0, 1, 2, 3, 4, 5]], h8⟩
    have hmono : ∀ zq ∈ R.F, ∀ zx zh zi, Sees zh zi → zq.2 zx zh → zq.2 zx zi := mono_nil
    refine x_region (by kernel_rfl) R hJ 7 [.ld 1 0, .pu, .pu, .cl, .pu, .cl, .cl] (by kernel_rfl) hmono (fun _ _ _ => by kernel_rfl) (fun hT hA => ?_) ?_
    · clear hJ
      refine And.intro (r_pure hT hA 37 (fun gh => .pointer (some ⟨gb, 0 + j * 7, none⟩)) [1, 2] 3 (by kernel_rfl) (by kernel_rfl) (by kernel_rfl) (fun _ => by kernel_rfl) (fun _ w => run_indexAddr (t := 55) (x := (.tmp 35)) (y := (.tmp 36)) (b := gb) (off := 0) (n := 5) (cap := cb) (k := j) (e := 64) (kk := 7) (by kernel_rfl) (by kernel_rfl) (by kernel_rfl) (by first | omega | (simp; omega)) Try.underlying55 (by kernel_rfl))) ?_
      refine And.intro (r_rowget hT hA 39 (fun gh => .string p.1) [4] 5 (by kernel_rfl) (by kernel_rfl) (by kernel_rfl) (fun _ => by kernel_rfl) 0 ⟨some (.row (.slice (some ⟨gb, 0, none⟩) 5 cb) 64 7 (fcRows (mixR x fa fb j))), []⟩ (by kernel_rfl) (by kernel_rfl) gb 5 cb 7 64 (fcRows (mixR x fa fb j)) (fun _ => by kernel_rfl) j 0 (r := [.string p.1, .int .i64 0, .int .i64 0, .string ⟨#[]⟩, .int .i64 p.2.k, .int .i64 p.2.n, .string p.2.s]) (hrow) 9 (.tmp 38) (by kernel_rfl) (fun _ => by kernel_rfl) (fun _ => by kernel_rfl)) ?_
      refine And.intro (r_callv hT hA hmono 40 (fun gh => .bool (hasE x p.1)) [0, 5] 6 (by kernel_rfl) (by kernel_rfl) (by kernel_rfl) (fun _ => by kernel_rfl) 25 (fun gh => #[.agg #[.int .i64 x.op, .int .i64 x.k, .int .i64 x.n, .string x.s, .string x.nm, .slice (sA u) (sN u) (sC u)], .string p.1]) (fun _ _ => by kernel_rfl) (fun gh H sH fH lent => hH _ _ (hx.sees (s7.trans (s9.trans sH))) p.1)) ?_
      trivial
    clear hJ a w; intro gh h10 a w sR hJ1 hF; have s11 : Sees h8 h10 := sR; clear sR
    have hJ : K ⟨89, h.w, h.bad, []⟩ [(8, .bool false), (9, .pointer (some ⟨b5, 0, none⟩)), (10, .slice Aa 5 ca), (11, .slice (some ⟨gb, 0, none⟩) 5 cb), (30, .int .i64 5), (31, .int .i64 (j : Int)), (32, .bool (decide ((j : Int) < 5))), (33, .int .i64 (j : Int)), (12, .int .i64 (j : Int)), (34, .agg #[.int .i64 x.op, .int .i64 x.k, .int .i64 x.n, .string x.s, .string x.nm, .slice (sA u) (sN u) (sC u)]), (35, .slice (some ⟨gb, 0, none⟩) 5 cb), (36, .int .i64 (j : Int)), (37, .pointer (some ⟨gb, 0 + j * 7, none⟩)), (38, .pointer (some ⟨gb, 0 + j * 7, none⟩)), (39, .string p.1), (40, .bool (hasE x p.1))] [.row (.slice (some ⟨gb, 0, none⟩) 5 cb) 64 7 (fcRows (mixR x fa fb j)), .box b5 [.int .i64 x.op, .int .i64 x.k, .int .i64 x.n, .string x.s, .string x.nm, .slice (sA u) (sN u) (sC u)]] [] h10 a w := hJ1.to (by kernel_rfl) (by kernel_rfl) rfl
    clear hJ1 hF hmono R
    clear gh
    refine rx hJ false 1 [] [] (.ok (.code [1, 1, 0, 0, 1, 1, 0, 0, 1, 0, 1, 1, 1]) [.block 1, .seq [1, 1, 1, 0, 0, 1, 0, 1, 1, 1]] [(8, .bool false), (9, .pointer (some ⟨b5, 0, none⟩)), (10, .slice Aa 5 ca), (11, .slice (some ⟨gb, 0, none⟩) 5 cb), (30, .int .i64 5), (31, .int .i64 (j : Int)), (32, .bool (decide ((j : Int) < 5))), (33, .int .i64 (j : Int)), (12, .int .i64 (j : Int)), (34, .agg #[.int .i64 x.op, .int .i64 x.k, .int .i64 x.n, .string x.s, .string x.nm, .slice (sA u) (sN u) (sC u)]), (35, .slice (some ⟨gb, 0, none⟩) 5 cb), (36, .int .i64 (j : Int)), (37, .pointer (some ⟨gb, 0 + j * 7, none⟩)), (38, .pointer (some ⟨gb, 0 + j * 7, none⟩)), (39, .string p.1), (40, .bool (hasE x p.1))] [.row (.slice (some ⟨gb, 0, none⟩) 5 cb) 64 7 (fcRows (mixR x fa fb j)), .box b5 [.int .i64 x.op, .int .i64 x.k, .int .i64 x.n, .string x.s, .string x.nm, .slice (sA u) (sN u) (sC u)]] []) trivial trivial (fun _ => by kernel_rfl) ?_
    clear hJ a w; intro a w hJ
    by_cases hh : hasE x p.1 = true
    · refine x_true hJ (t := hasE x p.1) (by kernel_rfl) (hh) ?_
      refine rx hJ false 5 [] [] (.ok (.ops [0, 1, 1, 0, 0, 1, 1, 0, 0, 1, 0, 1, 1, 1] 4) [.block 1, .seq [1, 1, 1, 0, 0, 1, 0, 1, 1, 1]] [(8, .bool false), (9, .pointer (some ⟨b5, 0, none⟩)), (10, .slice Aa 5 ca), (11, .slice (some ⟨gb, 0, none⟩) 5 cb), (30, .int .i64 5), (31, .int .i64 (j : Int)), (32, .bool (decide ((j : Int) < 5))), (33, .int .i64 (j : Int)), (12, .int .i64 (j : Int)), (34, .agg #[.int .i64 x.op, .int .i64 x.k, .int .i64 x.n, .string x.s, .string x.nm, .slice (sA u) (sN u) (sC u)]), (35, .slice (some ⟨gb, 0, none⟩) 5 cb), (36, .int .i64 (j : Int)), (37, .pointer (some ⟨gb, 0 + j * 7, none⟩)), (38, .pointer (some ⟨gb, 0 + j * 7, none⟩)), (39, .string p.1), (40, .bool (hasE x p.1)), (41, .slice (some ⟨gb, 0, none⟩) 5 cb), (42, .int .i64 (j : Int)), (43, .slice Aa 5 ca), (44, .int .i64 (j : Int))] [.row (.slice (some ⟨gb, 0, none⟩) 5 cb) 64 7 (fcRows (mixR x fa fb j)), .box b5 [.int .i64 x.op, .int .i64 x.k, .int .i64 x.n, .string x.s, .string x.nm, .slice (sA u) (sN u) (sC u)]] []) trivial trivial (fun _ => by kernel_rfl) ?_
      clear hJ a w; intro a w hJ
      obtain ⟨b12, o13, rfl, -, c14⟩ := RS.row hra (hrowa)
      replace hJ := hJ.fact (c14.sees (s9.trans s11))
      refine rx hJ false 3 [.ix b12 o13 5 ca j, .f 0 0, .ix gb 0 5 cb j] [] (.ok (.ops [0, 1, 1, 0, 0, 1, 1, 0, 0, 1, 0, 1, 1, 1] 7) [.block 1, .seq [1, 1, 1, 0, 0, 1, 0, 1, 1, 1]] [(8, .bool false), (9, .pointer (some ⟨b5, 0, none⟩)), (10, .slice (some ⟨b12, o13, none⟩) 5 ca), (11, .slice (some ⟨gb, 0, none⟩) 5 cb), (30, .int .i64 5), (31, .int .i64 (j : Int)), (32, .bool (decide ((j : Int) < 5))), (33, .int .i64 (j : Int)), (12, .int .i64 (j : Int)), (34, .agg #[.int .i64 x.op, .int .i64 x.k, .int .i64 x.n, .string x.s, .string x.nm, .slice (sA u) (sN u) (sC u)]), (35, .slice (some ⟨gb, 0, none⟩) 5 cb), (36, .int .i64 (j : Int)), (37, .pointer (some ⟨gb, 0 + j * 7, none⟩)), (38, .pointer (some ⟨gb, 0 + j * 7, none⟩)), (39, .string p.1), (40, .bool (hasE x p.1)), (41, .slice (some ⟨gb, 0, none⟩) 5 cb), (42, .int .i64 (j : Int)), (43, .slice (some ⟨b12, o13, none⟩) 5 ca), (44, .int .i64 (j : Int)), (45, .pointer (some ⟨b12, o13 + j * 7, none⟩)), (46, .agg #[.string q.1, .int .i64 0, .int .i64 0, .string ⟨#[]⟩, .int .i64 q.2.k, .int .i64 q.2.n, .string q.2.s]), (47, .pointer (some ⟨gb, 0 + j * 7, none⟩))] [.row (.slice (some ⟨gb, 0, none⟩) 5 cb) 64 7 (fcRows (mixR x fa fb j)), .box b5 [.int .i64 x.op, .int .i64 x.k, .int .i64 x.n, .string x.s, .string x.nm, .slice (sA u) (sN u) (sC u)]] [(b12, o13 + j * 7, [.string q.1, .int .i64 0, .int .i64 0, .string ⟨#[]⟩, .int .i64 q.2.k, .int .i64 q.2.n, .string q.2.s])]) (And.intro (by first | omega | (simp; omega)) (And.intro (by first | omega | (simp; omega)) (trivial))) trivial (fun _ => by kernel_rfl) ?_
      clear hJ a w; intro a w hJ
      refine x_rowset hJ 0 j 0 (g := gb) (m := 5) (cap := cb) (kk := 7) (e := 64) (l := fcRows (mixR x fa fb j)) (r := [.string p.1, .int .i64 0, .int .i64 0, .string ⟨#[]⟩, .int .i64 p.2.k, .int .i64 p.2.n, .string p.2.s]) (t := 64) (x := (.tmp 47)) (y := (.tmp 46)) (u := .agg #[.string q.1, .int .i64 0, .int .i64 0, .string ⟨#[]⟩, .int .i64 q.2.k, .int .i64 q.2.n, .string q.2.s]) (by kernel_rfl) (by kernel_rfl) (by kernel_rfl) (by kernel_rfl) (by kernel_rfl) (hrow) (by kernel_rfl) ?_; clear hJ a w; intro a w hJ
      replace hJ : K ⟨89, h.w, h.bad, []⟩ [(8, .bool false), (9, .pointer (some ⟨b5, 0, none⟩)), (10, .slice (some ⟨b12, o13, none⟩) 5 ca), (11, .slice (some ⟨gb, 0, none⟩) 5 cb), (30, .int .i64 5), (31, .int .i64 (j : Int)), (32, .bool (decide ((j : Int) < 5))), (33, .int .i64 (j : Int)), (12, .int .i64 (j : Int)), (34, .agg #[.int .i64 x.op, .int .i64 x.k, .int .i64 x.n, .string x.s, .string x.nm, .slice (sA u) (sN u) (sC u)]), (35, .slice (some ⟨gb, 0, none⟩) 5 cb), (36, .int .i64 (j : Int)), (37, .pointer (some ⟨gb, 0 + j * 7, none⟩)), (38, .pointer (some ⟨gb, 0 + j * 7, none⟩)), (39, .string p.1), (40, .bool (hasE x p.1)), (41, .slice (some ⟨gb, 0, none⟩) 5 cb), (42, .int .i64 (j : Int)), (43, .slice (some ⟨b12, o13, none⟩) 5 ca), (44, .int .i64 (j : Int)), (45, .pointer (some ⟨b12, o13 + j * 7, none⟩)), (46, .agg #[.string q.1, .int .i64 0, .int .i64 0, .string ⟨#[]⟩, .int .i64 q.2.k, .int .i64 q.2.n, .string q.2.s]), (47, .pointer (some ⟨gb, 0 + j * 7, none⟩))] [.row (.slice (some ⟨gb, 0, none⟩) 5 cb) 64 7 ((fcRows (mixR x fa fb j)).set j [.string q.1, .int .i64 0, .int .i64 0, .string ⟨#[]⟩, .int .i64 q.2.k, .int .i64 q.2.n, .string q.2.s]), .box b5 [.int .i64 x.op, .int .i64 x.k, .int .i64 x.n, .string x.s, .string x.nm, .slice (sA u) (sN u) (sC u)]] [(b12, o13 + j * 7, [.string q.1, .int .i64 0, .int .i64 0, .string ⟨#[]⟩, .int .i64 q.2.k, .int .i64 q.2.n, .string q.2.s])] h10 a w := hJ.to (by kernel_rfl) (by kernel_rfl) rfl
      refine rx hJ false 7 [] [(48, .int .i64 (IntKind.i64.wrap ((j : Int) + 1)), .int .i64 ((j : Int) + 1))] (.ok (.out .normal) [] [(8, .bool false), (9, .pointer (some ⟨b5, 0, none⟩)), (10, .slice (some ⟨b12, o13, none⟩) 5 ca), (11, .slice (some ⟨gb, 0, none⟩) 5 cb), (30, .int .i64 5), (32, .bool (decide ((j : Int) < 5))), (33, .int .i64 (j : Int)), (12, .int .i64 (j : Int)), (34, .agg #[.int .i64 x.op, .int .i64 x.k, .int .i64 x.n, .string x.s, .string x.nm, .slice (sA u) (sN u) (sC u)]), (35, .slice (some ⟨gb, 0, none⟩) 5 cb), (36, .int .i64 (j : Int)), (37, .pointer (some ⟨gb, 0 + j * 7, none⟩)), (38, .pointer (some ⟨gb, 0 + j * 7, none⟩)), (39, .string p.1), (40, .bool (hasE x p.1)), (41, .slice (some ⟨gb, 0, none⟩) 5 cb), (42, .int .i64 (j : Int)), (43, .slice (some ⟨b12, o13, none⟩) 5 ca), (44, .int .i64 (j : Int)), (45, .pointer (some ⟨b12, o13 + j * 7, none⟩)), (46, .agg #[.string q.1, .int .i64 0, .int .i64 0, .string ⟨#[]⟩, .int .i64 q.2.k, .int .i64 q.2.n, .string q.2.s]), (47, .pointer (some ⟨gb, 0 + j * 7, none⟩)), (48, .int .i64 ((j : Int) + 1)), (31, .int .i64 ((j : Int) + 1))] [.row (.slice (some ⟨gb, 0, none⟩) 5 cb) 64 7 ((fcRows (mixR x fa fb j)).set j [.string q.1, .int .i64 0, .int .i64 0, .string ⟨#[]⟩, .int .i64 q.2.k, .int .i64 q.2.n, .string q.2.s]), .box b5 [.int .i64 x.op, .int .i64 x.k, .int .i64 x.n, .string x.s, .string x.nm, .slice (sA u) (sN u) (sC u)]] [(b12, o13 + j * 7, [.string q.1, .int .i64 0, .int .i64 0, .string ⟨#[]⟩, .int .i64 q.2.k, .int .i64 q.2.n, .string q.2.s])]) trivial (And.intro (i64_wrap (by omega) (by omega)) (trivial)) (fun _ => by kernel_rfl) ?_
      clear hJ a w; intro a w hJ
      exact x_round ⟨j + 1, ⟨h10, (hJ.tof [] (F' := []) (by kernel_rfl)).to (by kernel_rfl) (by rw [hsucc, if_pos hh, fcRows_set]) rfl, (s9.trans s11), by omega⟩, by omega⟩
    · skip
      refine x_false hJ (t := hasE x p.1) (by kernel_rfl) ((by simpa using hh)) ?_
      refine rx hJ false 7 [] [(48, .int .i64 (IntKind.i64.wrap ((j : Int) + 1)), .int .i64 ((j : Int) + 1))] (.ok (.out .normal) [] [(8, .bool false), (9, .pointer (some ⟨b5, 0, none⟩)), (10, .slice Aa 5 ca), (11, .slice (some ⟨gb, 0, none⟩) 5 cb), (30, .int .i64 5), (32, .bool (decide ((j : Int) < 5))), (33, .int .i64 (j : Int)), (12, .int .i64 (j : Int)), (34, .agg #[.int .i64 x.op, .int .i64 x.k, .int .i64 x.n, .string x.s, .string x.nm, .slice (sA u) (sN u) (sC u)]), (35, .slice (some ⟨gb, 0, none⟩) 5 cb), (36, .int .i64 (j : Int)), (37, .pointer (some ⟨gb, 0 + j * 7, none⟩)), (38, .pointer (some ⟨gb, 0 + j * 7, none⟩)), (39, .string p.1), (40, .bool (hasE x p.1)), (48, .int .i64 ((j : Int) + 1)), (31, .int .i64 ((j : Int) + 1))] [.row (.slice (some ⟨gb, 0, none⟩) 5 cb) 64 7 (fcRows (mixR x fa fb j)), .box b5 [.int .i64 x.op, .int .i64 x.k, .int .i64 x.n, .string x.s, .string x.nm, .slice (sA u) (sN u) (sC u)]] []) trivial (And.intro (i64_wrap (by omega) (by omega)) (trivial)) (fun _ => by kernel_rfl) ?_
      clear hJ a w; intro a w hJ
      exact x_round ⟨j + 1, ⟨h10, hJ.to (by kernel_rfl) (by rw [hsucc, if_neg hh]) rfl, (s9.trans s11), by omega⟩, by omega⟩
  · skip
    subst hje
    obtain ⟨h15, s16, frb, hJn⟩ := hJ.frozen (v := .slice (some ⟨gb, 0, none⟩) 5 cb) (e := 64) (k := 7) (l := fcRows (mixR x fa fb 5)) 0 (by kernel_rfl) (hJ.j.rowOut0 (v := .slice (some ⟨gb, 0, none⟩) 5 cb) (e := 64) (k := 7) (l := fcRows (mixR x fa fb 5)) 0 (by kernel_rfl) rfl); clear hJ; have hJ := hJn; clear hJn
    refine x_false hJ (t := decide (5 < 5)) (by kernel_rfl) (decide_eq_false (by decide)) ?_
    refine rx hJ false 2 [] [] (.ok (.out (.exit 0)) [] [(8, .bool false), (9, .pointer (some ⟨b5, 0, none⟩)), (10, .slice Aa 5 ca), (11, .slice (some ⟨gb, 0, none⟩) 5 cb), (30, .int .i64 5), (31, .int .i64 5), (32, .bool (decide (5 < 5)))] [.box b5 [.int .i64 x.op, .int .i64 x.k, .int .i64 x.n, .string x.s, .string x.nm, .slice (sA u) (sN u) (sC u)]] []) trivial trivial (fun _ => by kernel_rfl) ?_
    clear hJ a w; intro a w hJ
    refine x_leave rfl ?_
    refine rx hJ true 34 [.b 0 0, .cl 29 #[.agg #[.int .i64 x.op, .int .i64 x.k, .int .i64 x.n, .string x.s, .string x.nm, .slice (sA u) (sN u) (sC u)], .slice Aa 5 ca] (.tuple #[.agg #[.int .i64 val.k, .int .i64 val.n, .string val.s], .int .i64 0]), .own, .b 0 0, .b 1 0, .cl 29 #[.agg #[.int .i64 x.op, .int .i64 x.k, .int .i64 x.n, .string x.s, .string x.nm, .slice (sA u) (sN u) (sC u)], .slice (some ⟨gb, 0, none⟩) 5 cb] (.tuple #[.agg #[.int .i64 val.k, .int .i64 val.n, .string val.s], .int .i64 0]), .own, .b 0 0, .fix] [] (.new fun b17 => .new fun b18 => .new fun bv65 => .ok (.ops [0, 1, 1, 1, 1, 1, 1] 4) [.seq [1, 1, 1, 1, 1, 1, 1]] [(8, .bool false), (13, .pointer (some ⟨b17, 0, none⟩)), (14, .int .i64 0), (15, .pointer (some ⟨b18, 0, none⟩)), (16, .int .i64 0), (62, .agg #[.int .i64 2, .int .i64 0, .int .i64 0, .string ⟨#[]⟩, .string ⟨#[110]⟩, .slice none 0 0]), (65, .slice (some ⟨bv65, 0, none⟩) 1 1)] [.box b18 [.int .i64 val.k, .int .i64 val.n, .string val.s], .box b17 [.int .i64 val.k, .int .i64 val.n, .string val.s], .box b5 [.int .i64 x.op, .int .i64 x.k, .int .i64 x.n, .string x.s, .string x.nm, .slice (sA u) (sN u) (sC u)]] [(bv65, 0, [.string ⟨#[110]⟩, .int .i64 0, .int .i64 0, .string ⟨#[]⟩, .int .i64 1, .int .i64 7, .string ⟨#[]⟩])]) (And.intro (fun H sH => hVa _ _ _ _ (hx.sees (s7.trans (s9.trans (s16.trans sH)))) (hra.sees (s9.trans (s16.trans sH)))) (And.intro (fun H sH => hVb _ _ _ _ (hx.sees (s7.trans (s9.trans (s16.trans sH)))) (frb.sees sH)) (trivial))) trivial (fun b17 b18 bv65 _ => by kernel_rfl) ?_
    clear hJ a w; intro b17 b18 bv65 h19 a w s20 hJ
    have v65 : Cells h19 bv65 0 [.string ⟨#[110]⟩, .int .i64 0, .int .i64 0, .string ⟨#[]⟩, .int .i64 1, .int .i64 7, .string ⟨#[]⟩] := hJ.f _ (List.mem_of_getElem? (i := 0) rfl)
    refine x_call hJ 66 (hV1 _ _ _ (oneN_row (v65.sees hJ.j.sees))) (fun _ => by kernel_rfl) ?_; clear hJ a w; rintro _ h21 a w s22 rfl hJ
    refine rx hJ false 28 [.own, .b 0 0, .b 0 1, .b 2 0, .b 1 0] [] (.new fun b23 => .ok (.ops [0, 1, 1, 1, 1, 1, 1, 1] 18) [.seq [1, 1, 1, 1, 1, 1, 1, 1]] [(8, .bool false), (84, .bool true), (85, .agg #[.int .i64 val.k, .int .i64 val.n, .string val.s]), (86, .agg #[.int .i64 val.k, .int .i64 val.n, .string val.s])] [.box b23 [.int .i64 1, .int .i64 7, .string ⟨#[]⟩], .box b18 [.int .i64 val.k, .int .i64 val.n, .string val.s], .box b17 [.int .i64 val.k, .int .i64 val.n, .string val.s], .box b5 [.int .i64 x.op, .int .i64 x.k, .int .i64 x.n, .string x.s, .string x.nm, .slice (sA u) (sN u) (sC u)]] [(bv65, 0, [.string ⟨#[110]⟩, .int .i64 0, .int .i64 0, .string ⟨#[]⟩, .int .i64 1, .int .i64 7, .string ⟨#[]⟩])]) trivial trivial (fun b23 _ => by kernel_rfl) ?_
    clear hJ a w; intro b23 a w hJ
    refine x_pure hJ 87 (.bool true) (by kernel_rfl) (fun w => run_eqop (x := (.tmp 85)) (y := (.tmp 86)) (v := val) (w := val) (by kernel_rfl) (by kernel_rfl) (by kernel_rfl) (eqB_iff.2 rfl)) ?_; clear hJ a w; intro a w hJ
    refine rx hJ false 5 [] [] (.ok (.out .ret) [] [(8, .bool true)] [.box b23 [.int .i64 1, .int .i64 7, .string ⟨#[]⟩], .box b18 [.int .i64 val.k, .int .i64 val.n, .string val.s], .box b17 [.int .i64 val.k, .int .i64 val.n, .string val.s], .box b5 [.int .i64 x.op, .int .i64 x.k, .int .i64 x.n, .string x.s, .string x.nm, .slice (sA u) (sN u) (sC u)]] [(bv65, 0, [.string ⟨#[110]⟩, .int .i64 0, .int .i64 0, .string ⟨#[]⟩, .int .i64 1, .int .i64 7, .string ⟨#[]⟩])]) trivial trivial (fun _ => by kernel_rfl) ?_
    clear hJ a w; intro a w hJ
    refine x_end (hQ [.bool true] _ [] hJ (.rtmp hJ.j (by kernel_rfl) .nil) (no_own _) rfl ?_).1
    exact rfl

theorem evalLocal_walk (v : Value) (l : List RawD) (v' : Value) (m : List RawD) (v'' : Value) (k : List RawD) (kd : Int) (w : World) (h : RawsOf w v l) (h' : RawsOf w v' m) (h'' : RawsOf w v'' k) (k0 : -9223372036854775808 ≤ kd) (k1 : kd ≤ 9223372036854775807) :
    Calls Try.prog 12 #[v, v', v'', .int .i64 kd] w fun e w' => e = .returned (.bool true) ∧ Below w.heap.size w w' :=
  C0.law (evalLocal_c l m k v v' v'' kd ⟨w, []⟩ h.rs h'.rs h''.rs h.2.1 h'.2.1 h''.2.1 h.2.2 h'.2.2 h''.2.2 k0 k1)

namespace evalLocalLaw
open Go.ChangeShapes Go.WideShapes Go.ChangeAt Go.RowKit
open Go.ChangeMaps (open_string shut_string)
set_option linter.unusedVariables false

set_option maxRecDepth 100000 in
theorem lifted (os : Os) (started : os.Started) (H : Type) (enc : TypeId × Value → H) :
    ReturnsInHanded {} Try.checked os 12 .any (Rows.evalLocalSpec.pre6 enc Try.prog Try.f12 Rows.evalLocalRow.domain false) (Rows.evalLocalSpec.post enc Try.prog Try.f12 false true false false) := by
  refine returnsInHanded_of_change_sized (C := Try.checked) ownNone started (by kernel_rfl) Try.func12
    (ChangeSpec.witness6 (enc := enc) (C := Try.checked) false ⟨#[], #[.slice none 0 0, .slice none 0 0, .slice none 0 0, .int .i64 0], []⟩ 8 (by kernel_rfl) (by kernel_rfl) (by kernel_rfl) (by kernel_rfl)) ?_
  intro W base args ds gs before hval0 hW hcnd hsz0 _
  have hval : ∀ (j : Nat) t v, Try.f12.params[j]? = some t → args[j]? = some v → Value.okWide Try.prog W .any base t v := hval0
  have hsz : (DataW.weightsEach Try.prog (Try.f12.params.toList ++ Rows.evalLocalSpec.plain.varTypes Try.prog) (ds ++ gs)).all (· ≤ reachBytes) = true := hsz0
  have hW' := hW
  obtain ⟨p, q, hA0, hV, rfl, hfz, hnd⟩ := hW
  have hA : DataW.TrodAll enc Try.prog W 0 (fun _ => true) true Try.f12.params.toList args.toList ds p := hA0
  rw [Try.params12] at hA hval hsz
  obtain ⟨v0, vs0, d0, ds0, p0, q0, hargs, rfl, rfl, h0, r0⟩ := trodAll_cons hA
  obtain ⟨v1, vs1, d1, ds1, p1, q1, rfl, rfl, rfl, h1, r1⟩ := trodAll_cons r0
  obtain ⟨v2, vs2, d2, ds2, p2, q2, rfl, rfl, rfl, h2, r2⟩ := trodAll_cons r1
  obtain ⟨v3, vs3, d3, ds3, p3, q3, rfl, rfl, rfl, h3, r3⟩ := trodAll_cons r2
  obtain ⟨rfl, rfl, rfl⟩ := trodAll_nil r3
  obtain rfl : args = #[v0, v1, v2, v3] := by cases args; simp_all
  obtain ⟨rfl, rfl⟩ := trodVars_none hV
  have k0 := h0
  have lt0 : ∀ x ∈ p0, x.block < W.heap.size := by obtain ⟨m, hm⟩ := k0; exact DataW.trod_lt m _ _ _ hm
  obtain ⟨a0, w0⟩ := open_rows (hval 0 35 v0 rfl rfl) h0 (fun es ss hd => sized_slice hsz (j := 0) (t := 35) (elems := es) (spare := ss) rfl (by rw [hd]; rfl) Try.underlying35)
  have k1 := h1
  have lt1 : ∀ x ∈ p1, x.block < W.heap.size := by obtain ⟨m, hm⟩ := k1; exact DataW.trod_lt m _ _ _ hm
  obtain ⟨a1, w1⟩ := open_rows (hval 1 35 v1 rfl rfl) h1 (fun es ss hd => sized_slice hsz (j := 1) (t := 35) (elems := es) (spare := ss) rfl (by rw [hd]; rfl) Try.underlying35)
  have k2 := h2
  have lt2 : ∀ x ∈ p2, x.block < W.heap.size := by obtain ⟨m, hm⟩ := k2; exact DataW.trod_lt m _ _ _ hm
  obtain ⟨a2, w2⟩ := open_rows (hval 2 35 v2 rfl rfl) h2 (fun es ss hd => sized_slice hsz (j := 2) (t := 35) (elems := es) (spare := ss) rfl (by rw [hd]; rfl) Try.underlying35)
  have k3 := h3
  have lt3 : ∀ x ∈ p3, x.block < W.heap.size := by obtain ⟨m, hm⟩ := k3; exact DataW.trod_lt m _ _ _ hm
  obtain ⟨a3, rfl, -, -, w3⟩ := open_int Try.underlying3 (hval 3 3 v3 rfl rfl) h3
  clear hA0 hval0 hsz0
  refine (evalLocal_walk v0 a0 v1 a1 v2 a2 a3 W w0 w1 w2 (int_lo w3) (int_hi w3)).mono fun e W' ⟨he, bel⟩ => ?_
  subst he
  exact ⟨_, rfl, _, _, _, [], _, [], hW', trodAll_mk1 (shut_bool Try.underlying4 _), (trodAll_cons_mk (Below.trod laidOutTrue (by kernel_rfl) (of_decide_eq_true (by kernel_rfl)) k0 bel lt0) (trodAll_cons_mk (Below.trod laidOutTrue (by kernel_rfl) (of_decide_eq_true (by kernel_rfl)) k1 bel lt1) (trodAll_cons_mk (Below.trod laidOutTrue (by kernel_rfl) (of_decide_eq_true (by kernel_rfl)) k2 bel lt2) (trodAll_cons_mk (Below.trod laidOutTrue (by kernel_rfl) (of_decide_eq_true (by kernel_rfl)) k3 bel lt3) trodAll_mk0)))), rfl, bel.frame _, fun h => by cases h⟩

theorem over : Rows.evalLocalRow.holds Try.pinned (OpenSpec.ofChange Rows.evalLocalSpec) :=
  OpenClaim.holds_of_wide 12 Try.f12 rfl rfl rfl rfl rfl rfl rfl ⟨rfl, rfl, rfl, rfl, rfl⟩ rfl rfl rfl rfl rfl (by kernel_rfl) Try.func12 (by kernel_rfl)
    (of_decide_eq_true (by kernel_rfl)) (by unfold Func.isWrapper; first | (rw [if_pos (by decide +kernel)]; kernel_rfl) | (rw [if_neg (by decide +kernel)]; exact ⟨rfl, rfl⟩))
    (fun os started H enc _ => lifted os started H enc)

end evalLocalLaw
theorem evalLocal_holds : Rows.EvalLocalSaid := evalLocalLaw.over
#print axioms evalLocal_holds
end Go.Proofs.Yteolcggpflnpoaa

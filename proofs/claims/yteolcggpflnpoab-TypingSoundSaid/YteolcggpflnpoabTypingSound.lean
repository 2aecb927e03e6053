/-
  For all raw things and kinds TypingSound returns true.
-/
import Derived.Test.YteolcggpflnpoabTyU
import Derived.Test.YteolcggpflnpoabTyS
import Derived.Test.YteolcggpflnpoabEvG
namespace Go.Proofs.Yteolcggpflnpoab
open Go.RowKit

/-- Facts of the fields, each one of its type. -/
inductive EnvF : Env → List Fd → Prop
  | nil : EnvF [] []
  | cons {p : ByteArray × Vl} {f : Fd} {env : Env} {fs : List Fd} (h1 : p.1 = f.name) (h2 : p.2.known) (h3 : p.2.k = f.ty) (h : EnvF env fs) : EnvF (p :: env) (f :: fs)
theorem EnvF.get {env : Env} {fs : List Fd} (h : EnvF env fs) {s : ByteArray} {t : Int} (ht : tyF fs s = some t) : ∃ v, env.get s = some v ∧ v.known ∧ v.k = t := by
  induction h with
  | nil => cases ht
  | @cons p f env fs h1 h2 h3 h ih =>
    unfold tyF at ht
    obtain ⟨k, v⟩ := p
    simp only at h1 h2 h3
    subst h1
    unfold Env.get
    split at ht
    · rename_i e
      simp only [Option.some.injEq] at ht
      subst ht
      exact ⟨v, if_pos e, h2, h3⟩
    · rename_i e
      rw [if_neg e]
      exact ih ht
theorem law_envF (l : List RawD) : EnvF (lawEnv l) some5 :=
  .cons rfl (valR_known _ _ (by decide) (by decide)) rfl (.cons rfl (valR_known _ _ (by decide) (by decide)) rfl (.cons rfl (valR_known _ _ (by decide) (by decide)) rfl (.cons rfl (valR_known _ _ (by decide) (by decide)) rfl (.cons rfl (valR_known _ _ (by decide) (by decide)) rfl .nil))))
/-- What a well typed formula may be beside a value of its type. -/
def FaultOk (v : Vl) : Prop := v.k = 5 ∧ (v.n = 7 ∨ v.n = 8 ∨ v.n = 1)
theorem faultOk : NotYet FaultOk := ⟨fun _ h => .inr h.1, ⟨rfl, .inl rfl⟩, ⟨rfl, .inr (.inl rfl)⟩, ⟨rfl, .inr (.inr rfl)⟩⟩
theorem facts_u (l : List RawD) (sl : Value) (h : Vw) (hr : RS h 4 sl (l.map RawD.cs)) (hlen : l.length * 40 ≤ reachBytes) (hok : ∀ r ∈ l, r.ok) :
    C0 Try.prog 17 #[sl] h (fun v h' => ∃ u, v = .slice (sA u) (sN u) (sC u) ∧ RS h' 7 (.slice (sA u) (sN u) (sC u)) (fcRows (lawEnv l))) := by
  intro a b c d
  refine (lawFacts_any l sl h hr hlen hok a b c d).mono ?_
  rintro e w' ⟨v, Bo, rfl, h1, h2, h3, A, c, rfl, h4⟩
  exact ⟨_, Bo, rfl, h1, h2, h3, .slice A 5 c, rfl, h4⟩

set_option maxHeartbeats 4000000 in
set_option maxRecDepth 100000 in
theorem typingSound_c (l m : List RawD) (sl sm : Value) (kd : Int) (h : Vw) (hr : RS h 4 sl (l.map RawD.cs)) (hs : RS h 4 sm (m.map RawD.cs)) (hlen : l.length * 40 ≤ reachBytes) (hlen' : m.length * 40 ≤ reachBytes) (hok : ∀ r ∈ l, r.ok) (hok' : ∀ r ∈ m, r.ok) (k0 : -9223372036854775808 ≤ kd) (k1 : kd ≤ 9223372036854775807) :
    C0 Try.prog 3 #[sl, sm, .int .i64 kd] h (fun v _ => v = .bool true) := by
  have p0 := pickL_lo kd 3 (by omega)
  have p1 := pickL_hi kd 3 (by omega)
  have hpk := c_picked kd 3
  have hE := fun H v q g => expr_any l some5 hlen hok (by decide) v g (1 + pickL kd 3) H q
  obtain ⟨xw, x1, x2⟩ := genE_ok l some5 some5_ok 3 (1 + pickL kd 3) 0 (by omega) (by omega)
  have xt := ty_gen some5_tyF l 3 (1 + pickL kd 3) 0 (by omega) (by omega)
  have hso := fun (hx : WfE (genE l some5 3 (1 + pickL kd 3) 0).1) => ty_sound faultOk (f := tyF some5) (env := lawEnv m) (fun s t ht => by
    obtain ⟨v, e1, e2, e3⟩ := (law_envF m).get ht
    exact ⟨v, e1, .inl ⟨e2, e3⟩⟩) hx xt
  have hso := hso xw
  generalize (genE l some5 3 (1 + pickL kd 3) 0).1 = x at *
  have x1 : (szE x).1 ≤ 40 := x1
  have c3 : cntE 3 = 40 := rfl
  have cx : chkE x = 0 := by unfold chkE; rw [if_neg (by omega), if_neg (by omega)]
  have hfit : ∀ (k : Int), fitsE some5 x k = if 1 + pickL kd 3 = k then 0 else 9 := fun k => by
    unfold fitsE ofE
    rw [if_pos cx, xt]; simp
  have hF := fun H v fv q1 q2 k => fits_any some5 x v fv k H q1 xw (by omega) q2
  simp only [hfit] at hF
  have eok := lawEnv_ok m
  have eln := lawEnv_len m
  have hFc := fun H q => facts_u m sm H q hlen' hok'
  generalize lawEnv m = env at *
  have hEv := fun H v A q1 q2 => eval_any x v env A H q1 xw (by omega) (by omega) q2 eok (by omega)
  have hKn := fun (v : Vl) (q : v.known) H => c_known v.k v.n v.s H q
  generalize evalE env x = val at *
  generalize hkind : 1 + pickL kd 3 = kind at *
  have hk1 := fun H v fv q1 q2 => (if_pos rfl : (if kind = kind then (0 : Int) else 9) = 0) ▸ hF H v fv q1 q2 kind
  have hne : ¬ kind = kind % 3 + 1 := by omega
  have hk2 := fun H v fv q1 q2 => (if_neg hne : (if kind = kind % 3 + 1 then (0 : Int) else 9) = 9) ▸ hF H v fv q1 q2 (kind % 3 + 1)
  obtain ⟨A0, cap, rfl, -, -, -⟩ := hr.form
  obtain ⟨A1, cap1, rfl, -, -, -⟩ := hs.form
  rw [List.length_map] at *
  rw [List.length_map] at *
  generalize l.length = n1 at *
  generalize m.length = n2 at *
  refine x_con Try.func3 (c := Try.f3.body.getD .skip) (by kernel_rfl) (N := 70) rfl (by kernel_rfl) ?_
  intro hbx hbad Q hQ a w hJ
  replace hJ : K ⟨70, h.w, h.bad, []⟩ [(0, .slice A0 n1 cap), (1, .slice A1 n2 cap1), (2, .int .i64 kd)] [] [] h a w := hJ.to (by kernel_rfl) (by kernel_rfl) rfl
  refine rx hJ false 17 [.cl 13 #[.int .i64 kd, .int .i64 3] (.int .i64 (pickL kd 3))] [(12, .int .i64 (IntKind.i64.wrap (1 + (pickL kd 3))), .int .i64 (1 + (pickL kd 3)))] (.ok (.ops [0, 1, 1] 2) [.seq [1, 1, 1]] [(1, .slice A1 n2 cap1), (6, .bool false), (2, .int .i64 (1 + (pickL kd 3))), (13, .slice A0 n1 cap), (14, .int .i64 (1 + (pickL kd 3)))] [] []) (And.intro (fun H sH => hpk _ k0 k1 (by omega) (by omega)) (trivial)) (And.intro (i64_wrap (by omega) (by omega)) (trivial)) (fun _ => by kernel_rfl) ?_
  clear hJ a w; intro a w hJ
  replace hJ := hJ.rew 2 (v := .int .i64 (1 + (pickL kd 3))) (v' := .int .i64 kind) (congrArg (Value.int .i64) hkind) (by kernel_rfl)
  replace hJ : K ⟨70, h.w, h.bad, []⟩ [(1, .slice A1 n2 cap1), (6, .bool false), (13, .slice A0 n1 cap), (14, .int .i64 (1 + (pickL kd 3))), (2, .int .i64 kind)] [] [] h a w := hJ.to (by kernel_rfl) rfl rfl
  replace hJ := hJ.rew 14 (v := .int .i64 (1 + (pickL kd 3))) (v' := .int .i64 kind) (congrArg (Value.int .i64) hkind) (by kernel_rfl)
  replace hJ : K ⟨70, h.w, h.bad, []⟩ [(1, .slice A1 n2 cap1), (6, .bool false), (13, .slice A0 n1 cap), (2, .int .i64 kind), (14, .int .i64 kind)] [] [] h a w := hJ.to (by kernel_rfl) rfl rfl
  refine x_call hJ 15 (f := 15) (args := #[]) (some_any _) (fun _ => by kernel_rfl) ?_; clear hJ a w; rintro _ h1 a w s2 ⟨hfs, b, rfl⟩ hJ
  refine x_call hJ 16 (f := 14) (args := #[.slice A0 n1 cap, .int .i64 kind, .slice (some ⟨b, 0, none⟩) 5 5]) (hE _ _ (hr.sees (s2.trans hJ.j.sees)) _ (hfs.sees hJ.j.sees) (by omega) (by omega)) (fun _ => by kernel_rfl) ?_; clear hJ a w; rintro _ h3 a w s4 ⟨u, rfl, hx⟩ hJ
  refine rx hJ false 5 [.own, .b 0 0] [] (.new fun b5 => .ok (.code [0, 1, 1, 1]) [.seq [1, 1, 1, 1]] [(1, .slice A1 n2 cap1), (6, .bool false), (2, .int .i64 kind), (7, .pointer (some ⟨b5, 0, none⟩))] [.box b5 [.int .i64 x.op, .int .i64 x.k, .int .i64 x.n, .string x.s, .string x.nm, .slice (sA u) (sN u) (sC u)]] []) trivial trivial (fun b5 _ => by kernel_rfl) ?_
  clear hJ a w; intro b5 a w hJ
  let R : Reg := ⟨⟨70, h.w, h.bad, []⟩, [(0, 18, fun gh => .agg #[.int .i64 x.op, .int .i64 x.k, .int .i64 x.n, .string x.s, .string x.nm, .slice (sA u) (sN u) (sC u)]), (1, 19, fun gh => .slice A1 n2 cap1), (2, 20, fun gh => .slice (sA (gh 2)) (sN (gh 2)) (sC (gh 2))), (3, 21, fun gh => .tuple #[.agg #[.int .i64 val.k, .int .i64 val.n, .string val.s], .int .i64 0]), (4, 17, fun gh => .tuple #[.agg #[.int .i64 val.k, .int .i64 val.n, .string val.s], .int .i64 0]), (5, 22, fun gh => .agg #[.int .i64 val.k, .int .i64 val.n, .string val.s]), (6, 23, fun gh => .int .i64 0), (7, 8, fun gh => .pointer (some ⟨(blkOf (gh 7)), 0, none⟩)), (9, 9, fun gh => .int .i64 0)], [(1, .slice A1 n2 cap1), (6, .bool false), (2, .int .i64 kind), (7, .pointer (some ⟨b5, 0, none⟩))], [⟨none, [(7, fun gh => .box (blkOf (gh 7)) [.int .i64 0, .int .i64 0, .string ⟨#[]⟩]), (8, fun gh => .box (blkOf (gh 7)) [.int .i64 val.k, .int .i64 val.n, .string val.s])]⟩, ⟨some (.box b5 [.int .i64 x.op, .int .i64 x.k, .int .i64 x.n, .string x.s, .string x.nm, .slice (sA u) (sN u) (sC u)]), []⟩], [(2, fun gh hh => RS hh 7 (.slice (sA (gh 2)) (sN (gh 2)) (sC (gh 2))) (fcRows env))], [[], [], [1], [0, 1, 2], [0, 1, 2, 3], [0, 1, 2, 3, 4], [0, 1, 2, 3, 4], [], [0, 1, 2, 3, 4, 5, 7], [0, 1, 2, 3, 4, 5, 6, 7, 8]], h3⟩
  have hmono : ∀ zq ∈ R.F, ∀ zx zh zi, Sees zh zi → zq.2 zx zh → zq.2 zx zi := mono_cons (fun _ _ _ s c => c.sees s) (mono_nil)
  refine x_region (by kernel_rfl) R hJ 10 [.ld 1 0, .pu, .cl, .cl, .pu, .pu, .pu, .al 0, .st 0 0, .pu] (by kernel_rfl) hmono (fun _ _ _ => by kernel_rfl) (fun hT hA => ?_) ?_
  · clear hJ
    refine And.intro (r_call hT hA hmono ⟨fun _ _ => by kernel_rfl, fun _ _ => by kernel_rfl, fun _ _ => by kernel_rfl⟩ 20 (fun u => .slice (sA u) (sN u) (sC u)) [1] 2 (by kernel_rfl) (by kernel_rfl) (fun _ => by kernel_rfl) 17 (fun gh => #[.slice A1 n2 cap1]) (fun _ _ => by kernel_rfl) (fun gh H sH fH lent => C0.facts (R := R) (x := gh) (i := 2) (n := 0) (F := (fun u => .slice (sA u) (sN u) (sC u))) (G := fun u hh => RS hh 7 (.slice (sA u) (sN u) (sC u)) (fcRows env)) (f := fun gh hh => RS hh 7 (.slice (sA (gh 2)) (sN (gh 2)) (sC (gh 2))) (fcRows env)) (hFc _ (hs.sees (s2.trans (s4.trans sH)))) (by kernel_rfl) (by kernel_rfl) (fun _ _ r => r))) ?_
    refine And.intro (r_callv hT hA hmono 21 (fun gh => .tuple #[.agg #[.int .i64 val.k, .int .i64 val.n, .string val.s], .int .i64 0]) [0, 2] 3 (by kernel_rfl) (by kernel_rfl) (by kernel_rfl) (fun _ => by kernel_rfl) 16 (fun gh => #[.agg #[.int .i64 x.op, .int .i64 x.k, .int .i64 x.n, .string x.s, .string x.nm, .slice (sA u) (sN u) (sC u)], .slice (sA (gh 2)) (sN (gh 2)) (sC (gh 2))]) (fun _ _ => by kernel_rfl) (fun gh H sH fH lent => hEv _ _ _ (hx.sees sH) (fH 0 _ rfl (by kernel_rfl)))) ?_
    trivial
  clear hJ a w; intro gh h7 a w sR hJ1 hF; have s8 : Sees h3 h7 := sR; clear sR
  have hJ : K ⟨70, h.w, h.bad, []⟩ [(6, .bool false), (2, .int .i64 kind), (7, .pointer (some ⟨b5, 0, none⟩)), (8, .pointer (some ⟨(blkOf (gh 7)), 0, none⟩)), (9, .int .i64 0)] [.box (blkOf (gh 7)) [.int .i64 val.k, .int .i64 val.n, .string val.s], .box b5 [.int .i64 x.op, .int .i64 x.k, .int .i64 x.n, .string x.s, .string x.nm, .slice (sA u) (sN u) (sC u)]] [] h7 a w := hJ1.to (by kernel_rfl) (by kernel_rfl) rfl
  have f20 : RS h7 7 (.slice (sA (gh 2)) (sN (gh 2)) (sC (gh 2))) (fcRows env) := Reg.fact (i := 2) (f := fun gh hh => RS hh 7 (.slice (sA (gh 2)) (sN (gh 2)) (sC (gh 2))) (fcRows env)) hF 0 (by kernel_rfl)
  clear hJ1 hF hmono R
  generalize gh 2 = u20 at *
  generalize blkOf (gh 7) = b6 at *
  clear gh
  refine rx hJ false 3 [] [] (.ok (.code [0, 0, 1, 1, 1, 1]) [.seq [1, 0, 1, 1, 1, 1], .seq [1, 1, 1, 1, 1]] [(6, .bool false), (2, .int .i64 kind), (7, .pointer (some ⟨b5, 0, none⟩)), (8, .pointer (some ⟨b6, 0, none⟩)), (9, .int .i64 0)] [.box b6 [.int .i64 val.k, .int .i64 val.n, .string val.s], .box b5 [.int .i64 x.op, .int .i64 x.k, .int .i64 x.n, .string x.s, .string x.nm, .slice (sA u) (sN u) (sC u)]] []) trivial trivial (fun _ => by kernel_rfl) ?_
  clear hJ a w; intro a w hJ
  let R : Reg := ⟨⟨70, h.w, h.bad, []⟩, [(0, 24, fun gh => .agg #[.int .i64 x.op, .int .i64 x.k, .int .i64 x.n, .string x.s, .string x.nm, .slice (sA u) (sN u) (sC u)]), (1, 25, fun gh => .slice (sA (gh 1)) (sN (gh 1)) (sC (gh 1))), (2, 26, fun gh => .int .i64 kind), (3, 27, fun gh => .int .i64 0), (4, 28, fun gh => .bool false), (5, 29, fun gh => .bool false), (6, 30, fun gh => .agg #[.int .i64 x.op, .int .i64 x.k, .int .i64 x.n, .string x.s, .string x.nm, .slice (sA u) (sN u) (sC u)]), (7, 31, fun gh => .slice (sA (gh 7)) (sN (gh 7)) (sC (gh 7))), (8, 32, fun gh => .int .i64 kind), (9, 33, fun gh => .int .i64 (kind % 3)), (10, 34, fun gh => .int .i64 ((kind % 3) + 1)), (11, 35, fun gh => .int .i64 9), (12, 36, fun gh => .bool false), (13, 37, fun gh => .bool false), (14, 38, fun gh => .bool false), (15, 39, fun gh => .int .i64 0), (16, 40, fun gh => .bool false), (17, 41, fun gh => .bool false)], [(6, .bool false), (2, .int .i64 kind), (7, .pointer (some ⟨b5, 0, none⟩)), (8, .pointer (some ⟨b6, 0, none⟩)), (9, .int .i64 0)], [⟨some (.box b6 [.int .i64 val.k, .int .i64 val.n, .string val.s]), []⟩, ⟨some (.box b5 [.int .i64 x.op, .int .i64 x.k, .int .i64 x.n, .string x.s, .string x.nm, .slice (sA u) (sN u) (sC u)]), []⟩], [(1, fun gh hh => IsFds hh (.slice (sA (gh 1)) (sN (gh 1)) (sC (gh 1))) some5), (7, fun gh hh => IsFds hh (.slice (sA (gh 7)) (sN (gh 7)) (sC (gh 7))) some5)], [[], [], [], [0, 1, 2], [0, 1, 2, 3], [0, 1, 2, 3, 4], [0, 1, 2, 3, 4, 5], [0, 1, 2, 3, 4, 5], [0, 1, 2, 3, 4, 5], [0, 1, 2, 3, 4, 5, 8], [0, 1, 2, 3, 4, 5, 8, 9], [0, 1, 2, 3, 4, 5, 6, 7, 8, 9, 10], [0, 1, 2, 3, 4, 5, 6, 7, 8, 9, 10, 11], [0, 1, 2, 3, 4, 5, 6, 7, 8, 9, 10, 11, 12], [0, 1, 2, 3, 4, 5, 6, 7, 8, 9, 10, 11, 12, 13], [0, 1, 2, 3, 4, 5, 6, 7, 8, 9, 10, 11, 12, 13, 14], [0, 1, 2, 3, 4, 5, 6, 7, 8, 9, 10, 11, 12, 13, 14, 15], [0, 1, 2, 3, 4, 5, 6, 7, 8, 9, 10, 11, 12, 13, 14, 15, 16]], h7⟩
  have hmono : ∀ zq ∈ R.F, ∀ zx zh zi, Sees zh zi → zq.2 zx zh → zq.2 zx zi := mono_cons (fun _ _ _ s c => c.sees s) (mono_cons (fun _ _ _ s c => c.sees s) (mono_nil))
  refine x_region (by kernel_rfl) R hJ 18 [.ld 1 0, .cl, .pu, .cl, .pu, .pu, .ld 1 0, .cl, .pu, .cl, .cl, .cl, .pu, .pu, .pu, .pu, .pu, .pu] (by kernel_rfl) hmono (fun _ _ _ => by kernel_rfl) (fun hT hA => ?_) ?_
  · clear hJ
    refine And.intro (r_call hT hA hmono ⟨fun _ _ => by kernel_rfl, fun _ _ => by kernel_rfl, fun _ _ => by kernel_rfl⟩ 25 (fun u => .slice (sA u) (sN u) (sC u)) [] 1 (by kernel_rfl) (by kernel_rfl) (fun _ => by kernel_rfl) 15 (fun gh => #[]) (fun _ _ => by kernel_rfl) (fun gh H sH fH lent => C0.facts (R := R) (x := gh) (i := 1) (n := 0) (F := (fun u => .slice (sA u) (sN u) (sC u))) (G := fun u hh => IsFds hh (.slice (sA u) (sN u) (sC u)) some5) (f := fun gh hh => IsFds hh (.slice (sA (gh 1)) (sN (gh 1)) (sC (gh 1))) some5) (some_u _) (by kernel_rfl) (by kernel_rfl) (fun _ _ r => r))) ?_
    refine And.intro (r_callv hT hA hmono 27 (fun gh => .int .i64 0) [0, 1, 2] 3 (by kernel_rfl) (by kernel_rfl) (by kernel_rfl) (fun _ => by kernel_rfl) 18 (fun gh => #[.agg #[.int .i64 x.op, .int .i64 x.k, .int .i64 x.n, .string x.s, .string x.nm, .slice (sA u) (sN u) (sC u)], .slice (sA (gh 1)) (sN (gh 1)) (sC (gh 1)), .int .i64 kind]) (fun _ _ => by kernel_rfl) (fun gh H sH fH lent => hk1 _ _ _ (hx.sees (s8.trans sH)) (fH 0 _ rfl (by kernel_rfl)))) ?_
    refine And.intro (r_call hT hA hmono ⟨fun _ _ => by kernel_rfl, fun _ _ => by kernel_rfl, fun _ _ => by kernel_rfl⟩ 31 (fun u => .slice (sA u) (sN u) (sC u)) [5] 7 (by kernel_rfl) (by kernel_rfl) (fun _ => by kernel_rfl) 15 (fun gh => #[]) (fun _ _ => by kernel_rfl) (fun gh H sH fH lent => C0.facts (R := R) (x := gh) (i := 7) (n := 1) (F := (fun u => .slice (sA u) (sN u) (sC u))) (G := fun u hh => IsFds hh (.slice (sA u) (sN u) (sC u)) some5) (f := fun gh hh => IsFds hh (.slice (sA (gh 7)) (sN (gh 7)) (sC (gh 7))) some5) (some_u _) (by kernel_rfl) (by kernel_rfl) (fun _ _ r => r))) ?_
    refine And.intro (r_pure hT hA 33 (fun gh => .int .i64 (kind % 3)) [5, 8] 9 (by kernel_rfl) (by kernel_rfl) (by kernel_rfl) (fun _ => by kernel_rfl) (fun _ w => run_bin (op := .rem) (t := 3) (x := (.tmp 32)) (y := (.const (.int .i64 3))) (yt := 3) (by kernel_rfl) (by kernel_rfl) (by kernel_rfl) (by kernel_rfl) (run_rem kind 3 w (by omega) (by omega)))) ?_
    refine And.intro (r_pure hT hA 34 (fun gh => .int .i64 ((kind % 3) + 1)) [5, 9] 10 (by kernel_rfl) (by kernel_rfl) (by kernel_rfl) (fun _ => by kernel_rfl) (fun _ w => run_eq (by kernel_rfl) (i64_wrap (by omega) (by omega)))) ?_
    refine And.intro (r_callv hT hA hmono 35 (fun gh => .int .i64 9) [5, 6, 7, 10] 11 (by kernel_rfl) (by kernel_rfl) (by kernel_rfl) (fun _ => by kernel_rfl) 18 (fun gh => #[.agg #[.int .i64 x.op, .int .i64 x.k, .int .i64 x.n, .string x.s, .string x.nm, .slice (sA u) (sN u) (sC u)], .slice (sA (gh 7)) (sN (gh 7)) (sC (gh 7)), .int .i64 ((kind % 3) + 1)]) (fun _ _ => by kernel_rfl) (fun gh H sH fH lent => hk2 _ _ _ (hx.sees (s8.trans sH)) (fH 1 _ rfl (by kernel_rfl)))) ?_
    trivial
  clear hJ a w; intro gh h9 a w sR hJ1 hF; have s10 : Sees h7 h9 := sR; clear sR
  have hJ : K ⟨70, h.w, h.bad, []⟩ [(6, .bool false), (2, .int .i64 kind), (8, .pointer (some ⟨b6, 0, none⟩)), (41, .bool false)] [.box b6 [.int .i64 val.k, .int .i64 val.n, .string val.s], .box b5 [.int .i64 x.op, .int .i64 x.k, .int .i64 x.n, .string x.s, .string x.nm, .slice (sA u) (sN u) (sC u)]] [] h9 a w := hJ1.to (by kernel_rfl) (by kernel_rfl) rfl
  have f25 : IsFds h9 (.slice (sA (gh 1)) (sN (gh 1)) (sC (gh 1))) some5 := Reg.fact (i := 1) (f := fun gh hh => IsFds hh (.slice (sA (gh 1)) (sN (gh 1)) (sC (gh 1))) some5) hF 0 (by kernel_rfl)
  have f31 : IsFds h9 (.slice (sA (gh 7)) (sN (gh 7)) (sC (gh 7))) some5 := Reg.fact (i := 7) (f := fun gh hh => IsFds hh (.slice (sA (gh 7)) (sN (gh 7)) (sC (gh 7))) some5) hF 1 (by kernel_rfl)
  clear hJ1 hF hmono R
  generalize gh 1 = u25 at *
  generalize gh 7 = u31 at *
  clear gh
  refine rx hJ false 11 [.b 0 0] [] (.ok (.ops [0, 1, 1, 1, 1, 1] 5) [.seq [1, 1, 1, 1, 1, 1]] [(6, .bool false), (8, .pointer (some ⟨b6, 0, none⟩)), (46, .bool (val.k == kind))] [.box b6 [.int .i64 val.k, .int .i64 val.n, .string val.s], .box b5 [.int .i64 x.op, .int .i64 x.k, .int .i64 x.n, .string x.s, .string x.nm, .slice (sA u) (sN u) (sC u)]] []) trivial trivial (fun _ => by kernel_rfl) ?_
  clear hJ a w; intro a w hJ
  rcases hso with ⟨hv, hvk⟩ | ⟨hv, hvn⟩
  · replace hJ := hJ.rew 46 (v := .bool (val.k == kind)) (v' := .bool true) (congrArg Value.bool (beq_iff_eq.2 hvk)) (by kernel_rfl)
    replace hJ : K ⟨70, h.w, h.bad, []⟩ [(6, .bool false), (8, .pointer (some ⟨b6, 0, none⟩)), (46, .bool true)] [.box b6 [.int .i64 val.k, .int .i64 val.n, .string val.s], .box b5 [.int .i64 x.op, .int .i64 x.k, .int .i64 x.n, .string x.s, .string x.nm, .slice (sA u) (sN u) (sC u)]] [] h9 a w := hJ.to (by kernel_rfl) rfl rfl
    refine rx hJ false 27 [.b 0 0, .cl 19 #[.agg #[.int .i64 val.k, .int .i64 val.n, .string val.s]] (.bool true)] [] (.ok (.out .ret) [] [(6, .bool true)] [.box b6 [.int .i64 val.k, .int .i64 val.n, .string val.s], .box b5 [.int .i64 x.op, .int .i64 x.k, .int .i64 x.n, .string x.s, .string x.nm, .slice (sA u) (sN u) (sC u)]] []) (And.intro (fun H sH => hKn val hv _) (trivial)) trivial (fun _ => by kernel_rfl) ?_
    clear hJ a w; intro a w hJ
    refine x_end (hQ [.bool true] [.box b6 [.int .i64 val.k, .int .i64 val.n, .string val.s], .box b5 [.int .i64 x.op, .int .i64 x.k, .int .i64 x.n, .string x.s, .string x.nm, .slice (sA u) (sN u) (sC u)]] [] hJ (.rtmp hJ.j (by kernel_rfl) .nil) (by kernel_rfl) (by kernel_rfl) ?_).1
    exact rfl
  · skip
    replace hJ := hJ.rew 46 (v := .bool (val.k == kind)) (v' := .bool false) (congrArg Value.bool (beq_eq_false_iff_ne.2 (by omega))) (by kernel_rfl)
    replace hJ : K ⟨70, h.w, h.bad, []⟩ [(6, .bool false), (8, .pointer (some ⟨b6, 0, none⟩)), (46, .bool false)] [.box b6 [.int .i64 val.k, .int .i64 val.n, .string val.s], .box b5 [.int .i64 x.op, .int .i64 x.k, .int .i64 x.n, .string x.s, .string x.nm, .slice (sA u) (sN u) (sC u)]] [] h9 a w := hJ.to (by kernel_rfl) rfl rfl
    rcases hvn with hn | hn | hn
    · skip
      refine rx hJ false 27 [.b 0 0, .b 0 1] [(53, .bool (val.k == 5), .bool true), (57, .bool (val.n == 7), .bool true)] (.ok (.out .ret) [] [(6, .bool true)] [.box b6 [.int .i64 val.k, .int .i64 val.n, .string val.s], .box b5 [.int .i64 x.op, .int .i64 x.k, .int .i64 x.n, .string x.s, .string x.nm, .slice (sA u) (sN u) (sC u)]] []) trivial (And.intro (congrArg Value.bool (beq_iff_eq.2 hv)) (And.intro (congrArg Value.bool (beq_iff_eq.2 hn)) (trivial))) (fun _ => by kernel_rfl) ?_
      clear hJ a w; intro a w hJ
      refine x_end (hQ [.bool true] [.box b6 [.int .i64 val.k, .int .i64 val.n, .string val.s], .box b5 [.int .i64 x.op, .int .i64 x.k, .int .i64 x.n, .string x.s, .string x.nm, .slice (sA u) (sN u) (sC u)]] [] hJ (.rtmp hJ.j (by kernel_rfl) .nil) (by kernel_rfl) (by kernel_rfl) ?_).1
      exact rfl
    · skip
      refine rx hJ false 27 [.b 0 0, .b 0 1, .b 0 1] [(53, .bool (val.k == 5), .bool true), (57, .bool (val.n == 7), .bool false), (61, .bool (val.n == 8), .bool true)] (.ok (.out .ret) [] [(6, .bool true)] [.box b6 [.int .i64 val.k, .int .i64 val.n, .string val.s], .box b5 [.int .i64 x.op, .int .i64 x.k, .int .i64 x.n, .string x.s, .string x.nm, .slice (sA u) (sN u) (sC u)]] []) trivial (And.intro (congrArg Value.bool (beq_iff_eq.2 hv)) (And.intro (congrArg Value.bool (beq_eq_false_iff_ne.2 (by omega))) (And.intro (congrArg Value.bool (beq_iff_eq.2 hn)) (trivial)))) (fun _ => by kernel_rfl) ?_
      clear hJ a w; intro a w hJ
      refine x_end (hQ [.bool true] [.box b6 [.int .i64 val.k, .int .i64 val.n, .string val.s], .box b5 [.int .i64 x.op, .int .i64 x.k, .int .i64 x.n, .string x.s, .string x.nm, .slice (sA u) (sN u) (sC u)]] [] hJ (.rtmp hJ.j (by kernel_rfl) .nil) (by kernel_rfl) (by kernel_rfl) ?_).1
      exact rfl
    · skip
      refine rx hJ false 27 [.b 0 0, .b 0 1, .b 0 1, .b 0 1] [(53, .bool (val.k == 5), .bool true), (57, .bool (val.n == 7), .bool false), (61, .bool (val.n == 8), .bool false), (66, .bool (val.n == 1), .bool true)] (.ok (.out .ret) [] [(6, .bool true)] [.box b6 [.int .i64 val.k, .int .i64 val.n, .string val.s], .box b5 [.int .i64 x.op, .int .i64 x.k, .int .i64 x.n, .string x.s, .string x.nm, .slice (sA u) (sN u) (sC u)]] []) trivial (And.intro (congrArg Value.bool (beq_iff_eq.2 hv)) (And.intro (congrArg Value.bool (beq_eq_false_iff_ne.2 (by omega))) (And.intro (congrArg Value.bool (beq_eq_false_iff_ne.2 (by omega))) (And.intro (congrArg Value.bool (beq_iff_eq.2 hn)) (trivial))))) (fun _ => by kernel_rfl) ?_
      clear hJ a w; intro a w hJ
      refine x_end (hQ [.bool true] [.box b6 [.int .i64 val.k, .int .i64 val.n, .string val.s], .box b5 [.int .i64 x.op, .int .i64 x.k, .int .i64 x.n, .string x.s, .string x.nm, .slice (sA u) (sN u) (sC u)]] [] hJ (.rtmp hJ.j (by kernel_rfl) .nil) (by kernel_rfl) (by kernel_rfl) ?_).1
      exact rfl

theorem typingSound_walk (v : Value) (l : List RawD) (v' : Value) (m : List RawD) (kd : Int) (w : World) (h : RawsOf w v l) (h' : RawsOf w v' m) (k0 : -9223372036854775808 ≤ kd) (k1 : kd ≤ 9223372036854775807) :
    Calls Try.prog 3 #[v, v', .int .i64 kd] w fun e w' => e = .returned (.bool true) ∧ Below w.heap.size w w' :=
  C0.law (typingSound_c l m v v' kd ⟨w, []⟩ h.rs h'.rs h.2.1 h'.2.1 h.2.2 h'.2.2 k0 k1)

namespace typingSoundLaw
open Go.ChangeShapes Go.WideShapes Go.ChangeAt Go.RowKit
open Go.ChangeMaps (open_string shut_string)
set_option linter.unusedVariables false

set_option maxRecDepth 100000 in
theorem lifted (os : Os) (started : os.Started) (H : Type) (enc : TypeId × Value → H) :
    ReturnsInHanded {} Try.checked os 3 .any (Rows.typingSoundSpec.pre6 enc Try.prog Try.f3 Rows.typingSoundRow.domain false) (Rows.typingSoundSpec.post enc Try.prog Try.f3 false true false false) := by
  refine returnsInHanded_of_change_sized (C := Try.checked) ownNone started (by kernel_rfl) Try.func3
    (ChangeSpec.witness6 (enc := enc) (C := Try.checked) false ⟨#[], #[.slice none 0 0, .slice none 0 0, .int .i64 0], []⟩ 8 (by kernel_rfl) (by kernel_rfl) (by kernel_rfl) (by kernel_rfl)) ?_
  intro W base args ds gs before hval0 hW hcnd hsz0 _
  have hval : ∀ (j : Nat) t v, Try.f3.params[j]? = some t → args[j]? = some v → Value.okWide Try.prog W .any base t v := hval0
  have hsz : (DataW.weightsEach Try.prog (Try.f3.params.toList ++ Rows.typingSoundSpec.plain.varTypes Try.prog) (ds ++ gs)).all (· ≤ reachBytes) = true := hsz0
  have hW' := hW
  obtain ⟨p, q, hA0, hV, rfl, hfz, hnd⟩ := hW
  have hA : DataW.TrodAll enc Try.prog W 0 (fun _ => true) true Try.f3.params.toList args.toList ds p := hA0
  rw [Try.params3] at hA hval hsz
  obtain ⟨v0, vs0, d0, ds0, p0, q0, hargs, rfl, rfl, h0, r0⟩ := trodAll_cons hA
  obtain ⟨v1, vs1, d1, ds1, p1, q1, rfl, rfl, rfl, h1, r1⟩ := trodAll_cons r0
  obtain ⟨v2, vs2, d2, ds2, p2, q2, rfl, rfl, rfl, h2, r2⟩ := trodAll_cons r1
  obtain ⟨rfl, rfl, rfl⟩ := trodAll_nil r2
  obtain rfl : args = #[v0, v1, v2] := by cases args; simp_all
  obtain ⟨rfl, rfl⟩ := trodVars_none hV
  have k0 := h0
  have lt0 : ∀ x ∈ p0, x.block < W.heap.size := by obtain ⟨m, hm⟩ := k0; exact DataW.trod_lt m _ _ _ hm
  obtain ⟨a0, w0⟩ := open_rows (hval 0 22 v0 rfl rfl) h0 (fun es ss hd => sized_slice hsz (j := 0) (t := 22) (elems := es) (spare := ss) rfl (by rw [hd]; rfl) Try.underlying22)
  have k1 := h1
  have lt1 : ∀ x ∈ p1, x.block < W.heap.size := by obtain ⟨m, hm⟩ := k1; exact DataW.trod_lt m _ _ _ hm
  obtain ⟨a1, w1⟩ := open_rows (hval 1 22 v1 rfl rfl) h1 (fun es ss hd => sized_slice hsz (j := 1) (t := 22) (elems := es) (spare := ss) rfl (by rw [hd]; rfl) Try.underlying22)
  have k2 := h2
  have lt2 : ∀ x ∈ p2, x.block < W.heap.size := by obtain ⟨m, hm⟩ := k2; exact DataW.trod_lt m _ _ _ hm
  obtain ⟨a2, rfl, -, -, w2⟩ := open_int Try.underlying3 (hval 2 3 v2 rfl rfl) h2
  clear hA0 hval0 hsz0
  refine (typingSound_walk v0 a0 v1 a1 a2 W w0 w1 (int_lo w2) (int_hi w2)).mono fun e W' ⟨he, bel⟩ => ?_
  subst he
  exact ⟨_, rfl, _, _, _, [], _, [], hW', trodAll_mk1 (shut_bool Try.underlying4 _), (trodAll_cons_mk (Below.trod laidOutTrue (by kernel_rfl) (of_decide_eq_true (by kernel_rfl)) k0 bel lt0) (trodAll_cons_mk (Below.trod laidOutTrue (by kernel_rfl) (of_decide_eq_true (by kernel_rfl)) k1 bel lt1) (trodAll_cons_mk (Below.trod laidOutTrue (by kernel_rfl) (of_decide_eq_true (by kernel_rfl)) k2 bel lt2) trodAll_mk0))), rfl, bel.frame _, fun h => by cases h⟩

theorem over : Rows.typingSoundRow.holds Try.pinned (OpenSpec.ofChange Rows.typingSoundSpec) :=
  OpenClaim.holds_of_wide 3 Try.f3 rfl rfl rfl rfl rfl rfl rfl ⟨rfl, rfl, rfl, rfl, rfl⟩ rfl rfl rfl rfl rfl (by kernel_rfl) Try.func3 (by kernel_rfl)
    (of_decide_eq_true (by kernel_rfl)) (by unfold Func.isWrapper; first | (rw [if_pos (by decide +kernel)]; kernel_rfl) | (rw [if_neg (by decide +kernel)]; exact ⟨rfl, rfl⟩))
    (fun os started H enc _ => lifted os started H enc)

end typingSoundLaw
theorem typingSound_holds : Rows.TypingSoundSaid := typingSoundLaw.over
#print axioms typingSound_holds
end Go.Proofs.Yteolcggpflnpoab

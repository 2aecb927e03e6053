/-
  Contracts of package net, as walks by certificates want them.
-/
import Derived.Test.YtjpgjnldeafpkaaNetL
import Derived.Test.YtjpgjnldeafpkaaRow
import Derived.Test.YtjpgjnldeafpkaaVl
namespace Go.Proofs.Ytjpgjnldeafpkaa
open Go.RowKit
set_option linter.unusedVariables false

theorem C0.of_lown {P : Program} {f : FuncId} {args : Array Value} {l : List Ltr} {h : Vw} (hc : Calls P f args h.w (LOwn l h.w)) : C0 P f args h (fun v h' => ∃ u, v = .tuple #[.slice (sA u) (sN u) (sC u), .int .i64 0] ∧ RS h' 8 (.slice (sA u) (sN u) (sC u)) (lcs l)) := by
  intro _ _ _ hbad
  refine hc.mono ?_
  rintro en w' ⟨v, rfl, ho, hb⟩
  have hr := rs_of_own (bad := h.bad) ho (lcs_len l) hbad
  obtain ⟨A, c, rfl, -⟩ := hr.form
  exact ⟨_, [], rfl, Low.of_below hb.below, (fun x hx => by cases hx), rfl, .slice A (lcs l).length c, rfl, hr⟩

section
variable {h : Vw} {v v' : Value} {l : List Ltr}
theorem c_at (hr : RS h 8 v (lcs l)) (hl : l.length ≤ 24) (hok : ∀ x ∈ l, OkL x) (i : Nat) (x : Ltr) (hi : l[i]? = some x) : C0 Try.prog 19 #[v, .int .i64 (i : Int)] h (fun r _ => r = .tuple #[.agg #[.string x.f, .int .i64 x.id, .int .i64 x.kk, .int .i64 x.kn, .string x.ks, .int .i64 x.ak, .int .i64 x.an, .string x.as'], .int .i64 0]) :=
  C0.of_e (net_at v l i x h.w (Sl.of_rs hr) hl hok hi)
theorem c_lose (hr : RS h 8 v (lcs l)) (hl : l.length ≤ 24) (hok : ∀ x ∈ l, OkL x) (i : Nat) (hi : i < l.length) : C0 Try.prog 8 #[v, .int .i64 (i : Int)] h (fun r h' => ∃ u, r = .tuple #[.slice (sA u) (sN u) (sC u), .int .i64 0] ∧ RS h' 8 (.slice (sA u) (sN u) (sC u)) (lcs (l.eraseIdx i))) :=
  C0.of_lown (net_lose v l i h.w (Sl.of_rs hr) hl hok hi)
theorem c_cloneL (hr : RS h 8 v (lcs l)) (hl : l.length ≤ 1000000) : CRow Try.prog 20 #[v] h 36 8 (fun _ rows => rows = lcs l) :=
  CRow.of_own (lcs_len l) (clone_ltr v (lcs l) h.w (Sl.of_rs hr) (lcs_len _) (lcs_one _) (by simp; omega))
theorem c_cloneR {rs : List RawD} (hr : RS h 4 v (rs.map RawD.cs)) (hl : rs.length * 40 ≤ 140737488355328) : CRow Try.prog 6 #[v] h 27 4 (fun _ rows => rows = rs.map RawD.cs) :=
  CRow.of_own (raws_len rs) (clone_raw v (rs.map RawD.cells) h.w (Sl.of_rs hr) (raws_len _) (raws_one _) (by simpa using hl))
theorem c_letters {rs : List RawD} (hr : RS h 4 v (rs.map RawD.cs)) (hl : rs.length * 40 ≤ 140737488355328) (hok : ∀ r ∈ rs, r.ok) : C0 Try.prog 5 #[v] h (fun r h' => ∃ A c, r = .slice A (ltrOf rs).length c ∧ RS h' 8 (.slice A (ltrOf rs).length c) (lcs (ltrOf rs))) := by
  refine (C0.of_own (lcs_len _) (letters_gen v rs h.w (Sl.of_rs hr) hl hok)).mono fun r h' _ => ?_
  rintro ⟨u, rfl, k⟩
  obtain ⟨A, c, e, -⟩ := k.form
  rw [List.length_map] at e
  rw [e] at k ⊢
  exact ⟨A, c, rfl, k⟩
theorem c_concat {va vb : Value} {la lb : List Ltr} (hr : RS h 1 v [[va], [vb]]) (ha : RS h 8 va (lcs la)) (hb : RS h 8 vb (lcs lb)) (hl : la.length + lb.length ≤ 1000000) : C0 Try.prog 11 #[v] h (fun r h' => ∃ u, r = .slice (sA u) (sN u) (sC u) ∧ RS h' 8 (.slice (sA u) (sN u) (sC u)) (lcs (la ++ lb))) := by
  have := concat_ltr v va vb (lcs la) (lcs lb) h.w (Sl.of_rs hr) (Sl.of_rs ha) (Sl.of_rs hb) (lcs_len _) (lcs_len _) (lcs_one _) (lcs_one _) (by simp; omega)
  rw [show lcs la ++ lcs lb = lcs (la ++ lb) by simp [lcs]] at this
  exact C0.of_own (lcs_len _) this
theorem c_equal (hr : RS h 8 v (lcs l)) (hr' : RS h 8 v' (lcs l)) (hl : l.length ≤ 1000000) : C0 Try.prog 10 #[v, v'] h (fun r _ => r = .bool true) :=
  C0.of_e (equal_ltr v v' l h.w (Sl.of_rs hr) (Sl.of_rs hr') (by omega))
end


end Go.Proofs.Ytjpgjnldeafpkaa

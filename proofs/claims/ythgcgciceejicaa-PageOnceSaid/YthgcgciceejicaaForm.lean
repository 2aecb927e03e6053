/-
  Contract of the laws' Form. What holds of the laws' forms. The fields of the laws' forms may be.
-/
import Derived.Test.YthgcgciceejicaaGo
import Derived.Test.YthgcgciceejicaaGenD
import Derived.Test.YthgcgciceejicaaFormP
import Derived.Test.YthgcgciceejicaaRevF
import Derived.Test.YthgcgciceejicaaChk
namespace Go.Proofs.Ythgcgciceejicaa
open Go.RowKit

/-! ### A callee's row, with facts that are clear of it -/
section
variable {P : Program} {C : Fx} {E : List (Nat × Value)} {B : List Ent} {F : List Fac} {h : Vw} {a : Act} {w w' : World} {Q : Exit → Act → World → Prop} {c0 : Code} {p : List Nat} {n : Nat} {ks : List Kt}
theorem own_sees (hJ : J C E B h a w) (i : Nat) {v : Value} {e : TypeId} {kk : Nat} {l : List (List Value)} (hB : B[i]? = some (.row v e kk l)) : Sees h ⟨w, v.ownBlock.toList ++ C.bad0⟩ :=
  hJ.sees.less fun b hb => by
    rcases List.mem_append.1 hb with q | q
    · exact List.mem_append_left _ (List.mem_flatMap.2 ⟨_, List.mem_of_getElem? hB, q⟩)
    · exact List.mem_append_right _ q
theorem own_apart (hJ : J C E B h a w) (i j : Nat) {v u : Value} {e e' : TypeId} {kk kk' : Nat} {l l' : List (List Value)} (hB : B[i]? = some (.row v e kk l)) (hj : B[j]? = some (.row u e' kk' l')) (hne : Nat.beq i j = false) (hC : C.wr = []) : RS ⟨w, u.ownBlock.toList ++ C.bad0⟩ kk v l := by
  have hm := List.mem_of_getElem? hB
  refine row_rs (hJ.ents _ hm) fun b hb hbad => ?_
  rcases List.mem_append.1 hbad with q | q
  · exact ent_apart hJ.nodup hB hj (Nat.ne_of_beq_eq_false hne) b (by simp [Ent.blocks, hb]) (by simpa [Ent.blocks] using q)
  · rcases hJ.own b (List.mem_flatMap.2 ⟨_, hm, by simp [Ent.blocks, hb]⟩) with g | g
    · have := hJ.badlt b q; omega
    · rw [hC] at g; cases g
theorem x_callown {f : FuncId} {args : Array Value} {e : TypeId} {kk : Nat} {R : Value → Value → List (List Value) → Vw → Prop} (hK : K C E B F h a w) (d : Nat) (hc : C0 P f args ⟨w, blk B ++ C.bad0⟩ (fun v h' => ∃ u l, Ent.ok w.heap.size h'.w (.row u e kk l) ∧ R v u l ⟨h'.w, u.ownBlock.toList ++ h'.bad⟩)) (hk : ∀ w, callAt P C E (opsAt c0 p) ((opsAt c0 p).toList.drop n) d w = [.b true, .r (.ok (.enter f args) w)])
    (k : ∀ v u l h' a w, Sees h h' → R v u l h' → K C ((d, v) :: E) (.row u e kk l :: B) F h' a w → Goal P c0 Q (.ops p (n + 1)) ks a w) : Goal P c0 Q (.ops p n) ks a w := by
  obtain ⟨o, r, hl, hg, hd, hlt, hkn, hrun⟩ := callAt_parts hk
  have hr := drop_cons hl
  refine goal_unguard hl (gKnown_wanted hK.j.fits hg) (wpList_plain rfl fun KK hKK => ?_)
  unfold Oper.wp
  have hrun' : ∀ w, (execOp (evD E) { o with guard := none }).run P w = .ok (.enter f args) w := fun w => by
    have := hrun w
    unfold execOp at this ⊢
    exact this
  rw [run_ev (o := { o with guard := none }) hK.j.fits hkn, hrun']
  refine (hc (by intro x hx; cases hx) (by simp) (by simp) (bad_lt hK.j)).mono ?_
  rintro e' w' ⟨v, Bo, rfl, hlo, -, -, u, l, hok, hR⟩
  refine hKK _ _ ?_
  rw [hr]
  have j1 := (hK.j.addRow hlo hok).putd v hd hlt
  have ev : (⟨w', u.ownBlock.toList ++ (blk B ++ C.bad0)⟩ : Vw) = ⟨w', blk (.row u e kk l :: B) ++ C.bad0⟩ := by
    show Vw.mk _ _ = Vw.mk _ ((u.ownBlock.toList ++ blk B) ++ C.bad0)
    rw [List.append_assoc]
  have hR' : R v u l ⟨w', blk (.row u e kk l :: B) ++ C.bad0⟩ := ev ▸ hR
  exact k v u l _ _ _ j1.sees hR' ⟨j1.now, hK.facs j1.sees⟩
theorem g_callown {s : Z} {f : FuncId} {args : Array Value} {e : TypeId} {kk : Nat} {R : Value → Value → List (List Value) → Vw → Prop} (hc : ∀ a w, K C s.E s.B s.F h a w → C0 P f args ⟨w, blk s.B ++ C.bad0⟩ (fun v h' => ∃ u l, Ent.ok w.heap.size h'.w (.row u e kk l) ∧ R v u l ⟨h'.w, u.ownBlock.toList ++ h'.bad⟩))
    (k : ∀ v u l h', Sees h h' → R v u l h' → Go P C c0 Q h' ((s.nx c0 v).aB (.row u e kk l))) (hk : s.callOk P C c0 f args := by intro _; kernel_rfl) : Go P C c0 Q h s :=
  g_ops (callOk_parts hk).1 fun a w hK => x_callown hK (s.d c0) (hc a w hK) (callOk_parts hk).2 fun v u l h' a w s' r hK' => (k v u l h' s' r).go a w hK'
end

theorem names10 (k : Nat) (hk : k < 10) (h : Vw) : C0 Try.prog 12 #[] h (fun v h' => ∃ u, v = .slice (some ⟨blkOf u, 0, none⟩) 10 10 ∧ Cells h' (blkOf u) (0 + k * 1) [.string (fname k)]) := by
  refine g_con Try.func12 fun hbx hbad Q hQ => ?_
  refine gov1 12 [.fix] [] ?_
  intro bs W1 S2
  refine g_cells 0 bs 0 [.string ⟨#[97]⟩, .string ⟨#[98]⟩, .string ⟨#[99]⟩, .string ⟨#[100, 97, 121]⟩, .string ⟨#[101, 49]⟩, .string ⟨#[102, 101, 101]⟩, .string ⟨#[103, 111, 110, 101]⟩, .string ⟨#[104, 111, 109, 101]⟩, .string ⟨#[105, 116, 101, 109]⟩, .string ⟨#[106, 111, 98]⟩] fun s => ?_
  refine hQ.toJ [Vs bs 10 10] [] (fun a w hJ => ?_)
  have c : Cells ⟨w, h.bad⟩ bs 0 (strRows fnames).flatten := (hJ.f (_, _, _) (List.mem_of_getElem? (i := 0) (by kernel_rfl))).sees hJ.j.out
  exact ⟨.pointer (some ⟨bs, 0, none⟩), rfl, RS.cell (rs_cells (k := 1) (strRows fnames) (fun r hr => by obtain ⟨x, -, rfl⟩ := List.mem_map.1 hr; rfl) (by decide) c) (fname_at hk)⟩

theorem fldT_step (l : List RawD) (k : Nat) {x : Ex} {n : Nat} (h : srcE l (fldT l k).1 (rawAt l (fldT l k).2) (atNext l (fldT l k).2) = (x, n)) :
    (fldT l (k + 1)).1 = (fldT l k).1 ++ [⟨fname k, 1 + pickL (rawAt l (fldT l k).2).k 3, 1 + pickL (rawAt l (fldT l k).2).b 3, x⟩] ∧ (fldT l (k + 1)).2 = n := by
  refine ⟨?_, ?_⟩
  · show (fldT l k).1 ++ [_] = _; rw [h]
  · show (srcE l (fldT l k).1 (rawAt l (fldT l k).2) (atNext l (fldT l k).2)).2 = _; rw [h]
theorem fld_src {l : List RawD} {k : Nat} {x : Ex} {u : Value} {h : Vw} {vs : List Value} (e : (fldT l (k + 1)).1 = (fldT l k).1 ++ [⟨fname k, 1 + pickL (rawAt l (fldT l k).2).k 3, 1 + pickL (rawAt l (fldT l k).2).b 3, x⟩])
    (hvs : AllSrc h (fldT l k).1 vs) (hu : IsArgs h x u) : AllSrc h (fldT l (k + 1)).1 (vs ++ [u]) := by rw [e]; exact AllSrc.snoc hvs hu
theorem slu_snoc {vs : List Value} (h : ∀ u ∈ vs, .slice (sA u) (sN u) (sC u) = u) {v : Value} (hv : .slice (sA v) (sN v) (sC v) = v) : ∀ u ∈ vs ++ [v], .slice (sA u) (sN u) (sC u) = u := fun u hu => (List.mem_append.1 hu).elim (h u) (fun e => by rw [List.mem_singleton.1 e]; exact hv)
theorem bnd2 : bnd 2 = 22 := rfl
theorem bnd1 : bnd 1 = 7 := rfl

theorem pgT_step (l : List RawD) (fs : List Fd) (n n0 k : Nat) {x : Ex} {m : Nat} (h : skipE l fs (rawAt l (pgT l fs n n0 k).2) (atNext l (pgT l fs n n0 k).2) = (x, m)) :
    (pgT l fs n n0 (k + 1)).1 = (pgT l fs n n0 k).1 ++ [⟨pgName k, pgNames fs n k, x⟩] ∧ (pgT l fs n n0 (k + 1)).2 = m := by
  refine ⟨?_, ?_⟩
  · show (pgT l fs n n0 k).1 ++ [_] = _; rw [h]
  · show (skipE l fs (rawAt l (pgT l fs n n0 k).2) (atNext l (pgT l fs n n0 k).2)).2 = _; rw [h]
theorem byte_of (k : Nat) (h : k < 4) : Value.int .u8 (IntKind.u8.wrap (49 + (k : Int))) = .int .u8 (((UInt8.ofNat (49 + k)).toNat : Nat) : Int) := by
  match k, h with
  | 0, _ => rfl
  | 1, _ => rfl
  | 2, _ => rfl
  | 3, _ => rfl
theorem pg_name (k : Nat) (h : k < 4) : Value.string ((⟨#[112]⟩ : ByteArray) ++ ⟨([UInt8.ofNat (49 + k)]).toArray⟩) = .string (pgName k) := by
  match k, h with
  | 0, _ => rfl
  | 1, _ => rfl
  | 2, _ => rfl
  | 3, _ => rfl
theorem mod_eq (a n k : Nat) : ((a : Int) % ((n : Int) + 1) == (k : Int)) = decide (a % (n + 1) = k) := by
  have e : (a : Int) % ((n : Int) + 1) = ((a % (n + 1) : Nat) : Int) := (Int.natCast_emod a (n + 1)).symm
  rw [e, Bool.eq_iff_iff, beq_iff_eq, decide_eq_true_iff]; omega

theorem fdRows_one : ∀ (fs : List Fd) (vs : List Value), (∀ v ∈ vs, .slice (sA v) (sN v) (sC v) = v) → ∀ r ∈ fdRows fs vs, ∀ u ∈ r, u.oneCell' = true
  | [], _, _, r, hr => by simp [fdRows] at hr
  | _ :: _, [], _, r, hr => by simp [fdRows] at hr
  | f :: fs, v :: vs, h, r, hr => by
    have hr : r ∈ fdRow f v :: fdRows fs vs := hr
    rcases List.mem_cons.1 hr with rfl | hr
    · intro u hu
      have hv := h v (by simp)
      rw [← hv] at hu
      simp [fdRow] at hu
      rcases hu with rfl | rfl | rfl | rfl | rfl | rfl | rfl | rfl | rfl <;> rfl
    · exact fdRows_one fs vs (fun v hv => h v (by simp [hv])) r hr
theorem fdRows_rev (fs : List Fd) (vs : List Value) (h : vs.length = fs.length) : (fdRows fs vs).reverse = fdRows fs.reverse vs.reverse := by
  induction fs generalizing vs with
  | nil => rw [List.length_eq_zero_iff.1 (show vs.length = 0 from h)]; rfl
  | cons f fs ih =>
    match vs, h with
    | v :: vs, h =>
      have h : vs.length = fs.length := by simpa using h
      show (fdRow f v :: fdRows fs vs).reverse = _
      rw [List.reverse_cons, ih vs h, List.reverse_cons, List.reverse_cons, fdRows_snoc (by simpa using h)]
theorem AllSrc.rev {h : Vw} {fs : List Fd} {vs : List Value} (k : AllSrc h fs vs) : AllSrc h fs.reverse vs.reverse := by
  induction fs generalizing vs with
  | nil =>
    have e := List.length_eq_zero_iff.1 (show vs.length = 0 from k.len)
    subst e; exact k
  | cons f fs ih =>
    have hl := k.len
    match vs, hl with
    | v :: vs, hl =>
      obtain ⟨u, r, e, k1, k2⟩ := k
      simp only [List.cons.injEq] at e
      obtain ⟨rfl, rfl⟩ := e
      rw [List.reverse_cons, List.reverse_cons]
      exact AllSrc.snoc (ih k2) k1

/-- What Form gives, the row of its fields apart. -/
def FormO (l : List RawD) (v u : Value) (fl : List (List Value)) (h : Vw) : Prop := ∃ u2 vs, v = .agg #[u, u2] ∧ fl = fdRows (formE l).fields vs ∧ AllSrc h (formE l).fields vs ∧ IsPgs h u2 (formE l).pages

set_option maxHeartbeats 4000000 in
set_option maxRecDepth 100000 in
theorem form_o (l : List RawD) (sl : Value) (h : Vw) (hr : RS h 4 sl (l.map RawD.cs)) (hlen : l.length * 40 ≤ reachBytes) (hok : ∀ r ∈ l, r.ok) :
    C0 Try.prog 4 #[sl] h (fun v h' => ∃ u fl, Ent.ok h.w.heap.size h'.w (.row u 52 9 fl) ∧ FormO l v u fl ⟨h'.w, u.ownBlock.toList ++ h'.bad⟩) := by
  obtain ⟨A, cap, rfl, -, -, -⟩ := hr.form
  rw [List.length_map] at *
  obtain ⟨nf1, nf2, nf3⟩ := nFields_le l
  have rok := rawAt_ok hok 0
  obtain ⟨⟨k0, k1⟩, ⟨a0, a1⟩, ⟨rb0, rb1⟩, -⟩ := rok
  refine g_con Try.func4 fun hbx hbad Q hQ => ?_
  refine go3 21 [.own, .own, .own] [] ?_
  intro br bg bf
  refine g_call1 1 (fun H sH => gen_next_any bg l (.slice A l.length cap) 0 _ (hr.sees sH) (by omega) hlen) ?_; rintro _ _ W1 S2 ⟨rfl, rfl⟩
  refine go1 6 [.own, .b 0 0] [] ?_
  intro bq
  refine g_reg 7 0 [.pu, .ld 0 1, .f (fun gh => .slice (some ⟨blkOf (gh 2), 0, none⟩) 10 10) (fun gh hh => Cells hh (blkOf (gh 2)) (0 + 0 * 1) [.string (fname 0)]), .pu, .v (fun gh => Vi (pickL (rawAt l 0).a 10)), .v (fun gh => Vi (1 + (pickL (rawAt l 0).a 10))), .pu] [(2, false)] (And.intro (fun _ _ _ s c => c.sees s) (trivial)) ?_ ?_
  · intro R hT hA hmono
    refine And.intro (r_call hT hA hmono ⟨fun _ _ => by kernel_rfl, fun _ _ => by kernel_rfl, fun _ _ => by kernel_rfl⟩ 22 (fun u => .slice (some ⟨blkOf u, 0, none⟩) 10 10) [] 2 (by kernel_rfl) (by kernel_rfl) (fun _ => by kernel_rfl) 12 (fun gh => #[]) (fun _ _ => by kernel_rfl) (fun gh H sH fH lent => C0.facts (R := R) (x := gh) (i := 2) (n := 0) (F := (fun u => .slice (some ⟨blkOf u, 0, none⟩) 10 10)) (G := fun u hh => Cells hh (blkOf u) (0 + 0 * 1) [.string (fname 0)]) (f := fun gh hh => Cells hh (blkOf (gh 2)) (0 + 0 * 1) [.string (fname 0)]) (names10 0 (by omega) _) (by kernel_rfl) (by kernel_rfl) (fun _ _ r => r))) ?_
    refine And.intro (t_v hT hA hmono (k := 9) (args := (fun gh => #[Vi ((rawAt l 0).a), Vi 10])) (f := fun gh => Vi (pickL (rawAt l 0).a 10)) (fun gh H sH fH lent => c_picked _ 10 _ a0 a1 (by omega) (by omega))) ?_
    refine And.intro (t_p hT hA (fun gh => Vi (1 + (pickL (rawAt l 0).a 10))) (fun gh w => run_eq (by kernel_rfl) (i64_wrap (by omega) (by omega)))) ?_
    trivial
  rintro u22 W3 S4 ⟨f22, -⟩
  replace f22 : Cells W3 (blkOf u22) (0 + 0 * 1) [.string (fname 0)] := f22
  refine g_fact f22 ?_
  refine go0 2 [] [] ?_
  refine g_nilrow 52 9 ?_
  refine g_loop [0, 1, 0, 1, 1, 1, 1] [.block 0, .seq [1, 1, 1, 1, 1]] (fun (k : Nat) X => ∃ (W5 : Vw) (v : Value) (vs : List Value), X W5 [(2, Vp br), (3, Vp bg), (4, Vp bf), (5, Vp bq), (25, Vi (1 + (pickL (rawAt l 0).a 10))), (26, Vi (k : Int))] [.row v 52 9 (fdRows (fldT l k).1 vs), .box bq [Vi ((rawAt l 0).k), Vi ((rawAt l 0).a), Vi ((rawAt l 0).b), .string ((rawAt l 0).t)], .box bf [v, Vz], .box bg [.slice A l.length cap, Vi (((fldT l k).2 : Nat) : Int)], .box br [Vz, Vz]] [((blkOf u22), 0 + 0 * 1, [.string (fname 0)])] ∧ Sees W3 W5 ∧ (k ≤ nFields l) ∧ (AllSrc W5 (fldT l k).1 vs) ∧ (∀ u ∈ vs, .slice (sA u) (sN u) (sC u) = u)) (fun k => nFields l - k) (0) (fun X q => ⟨W3, (Vz), [], q _ _ _ _ ⟨rfl, by kernel_rfl⟩, Sees.refl _, Nat.zero_le _, by unfold AllSrc AllArgs; rfl, fun _ h => by cases h⟩) ?_
  rintro k a w ⟨W5, v, vs, hJ, S6, hk, hvs, hvl⟩; refine g_of hJ ?_; clear hJ a w
  refine go0 6 [] [] ?_
  rcases (by omega : k < nFields l ∨ k = nFields l) with hlt | hke
  · have fle := fldT_le l k
    obtain ⟨⟨rk0, rk1⟩, ⟨ra0, ra1⟩, ⟨rb0', rb1'⟩, -⟩ := rawAt_ok hok (fldT l k).2
    have hE2 := exprC_all l (fldT l k).1 hlen hok (by rw [fldT_len]; omega) 2 (by omega)
    have hE1 := exprC_all l (fldT l k).1 hlen hok (by rw [fldT_len]; omega) 1 (by omega)
    have pk := pick_range (rawAt l (fldT l k).2).k 3 (by omega)
    have pb := pick_range (rawAt l (fldT l k).2).b 3 (by omega)
    have pa := pick_range (rawAt l (fldT l k).2).a 3 (by omega)
    have anx := atNext_le l (fldT l k).2
    refine g_true (t := decide ((k : Int) < (1 + (pickL (rawAt l 0).a 10)))) (decide_eq_true (by omega)) ?_
    refine go0 13 [] [] ?_
    refine g_call1 3 (fun H sH => gen_next_any bg l (.slice A l.length cap) (fldT l k).2 _ (hr.sees (S2.trans (S4.trans (S6.trans sH)))) (by omega) hlen) ?_; rintro _ _ W7 S8 ⟨rfl, rfl⟩
    refine go1 5 [.own, .b 0 0] [] ?_
    intro b9
    refine g_reg 15 1 [.f (fun gh => .slice (some ⟨blkOf (gh 0), 0, none⟩) 10 10) (fun gh hh => Cells hh (blkOf (gh 0)) (0 + k * 1) [.string (fname k)]), .pu, .v (fun gh => .pointer (some ⟨blkOf (gh 0), 0 + k * 1, none⟩)), .v (fun gh => .string (fname k)), .pu, .ld 1 0, .v (fun gh => Vi (pickL (rawAt l (fldT l k).2).k 3)), .v (fun gh => Vi (1 + (pickL (rawAt l (fldT l k).2).k 3))), .pu, .ld 1 2, .v (fun gh => Vi (pickL (rawAt l (fldT l k).2).b 3)), .v (fun gh => Vi (1 + (pickL (rawAt l (fldT l k).2).b 3))), .pu, .al 0, .st 0 0] [(0, false), (13, true)] (And.intro (fun _ _ _ s c => c.sees s) (trivial)) ?_ ?_
    · intro R hT hA hmono
      refine And.intro (r_call hT hA hmono ⟨fun _ _ => by kernel_rfl, fun _ _ => by kernel_rfl, fun _ _ => by kernel_rfl⟩ 31 (fun u => .slice (some ⟨blkOf u, 0, none⟩) 10 10) [] 0 (by kernel_rfl) (by kernel_rfl) (fun _ => by kernel_rfl) 12 (fun gh => #[]) (fun _ _ => by kernel_rfl) (fun gh H sH fH lent => C0.facts (R := R) (x := gh) (i := 0) (n := 0) (F := (fun u => .slice (some ⟨blkOf u, 0, none⟩) 10 10)) (G := fun u hh => Cells hh (blkOf u) (0 + k * 1) [.string (fname k)]) (f := fun gh hh => Cells hh (blkOf (gh 0)) (0 + k * 1) [.string (fname k)]) (names10 k (by omega) _) (by kernel_rfl) (by kernel_rfl) (fun _ _ r => r))) ?_
      refine And.intro (t_p hT hA (fun gh => .pointer (some ⟨blkOf (gh 0), 0 + k * 1, none⟩)) (fun gh w => run_indexAddr (t := 31) (x := (.tmp 31)) (y := (.tmp 32)) (b := blkOf (gh 0)) (off := 0) (n := 10) (cap := 10) (k := k) (e := 9) (kk := 1) (by kernel_rfl) (by kernel_rfl) (by kernel_rfl) ((by omega)) Try.underlying31 (by kernel_rfl))) ?_
      refine And.intro (r_loadfx hT hA 34 (fun gh => .string (fname k)) [2] 3 (by kernel_rfl) (by kernel_rfl) (by kernel_rfl) (fun _ => by kernel_rfl) 0 (0, fun gh hh => Cells hh (blkOf (gh 0)) (0 + k * 1) [.string (fname k)]) (by kernel_rfl) (by kernel_rfl) (fun gh => (blkOf (gh 0))) (fun gh => (0 + k * 1)) (fun gh => [.string (fname k)]) 0 (fun _ _ c => c) 9 (.tmp 33) (by kernel_rfl) (fun _ => by kernel_rfl) (fun _ => by kernel_rfl)) ?_
      refine And.intro (t_v hT hA hmono (k := 9) (args := (fun gh => #[Vi ((rawAt l (fldT l k).2).k), Vi 3])) (f := fun gh => Vi (pickL (rawAt l (fldT l k).2).k 3)) (fun gh H sH fH lent => c_picked _ 3 _ rk0 rk1 (by omega) (by omega))) ?_
      refine And.intro (t_p hT hA (fun gh => Vi (1 + (pickL (rawAt l (fldT l k).2).k 3))) (fun gh w => run_eq (by kernel_rfl) (i64_wrap (by omega) (by omega)))) ?_
      refine And.intro (t_v hT hA hmono (k := 9) (args := (fun gh => #[Vi ((rawAt l (fldT l k).2).b), Vi 3])) (f := fun gh => Vi (pickL (rawAt l (fldT l k).2).b 3)) (fun gh H sH fH lent => c_picked _ 3 _ rb0' rb1' (by omega) (by omega))) ?_
      refine And.intro (t_p hT hA (fun gh => Vi (1 + (pickL (rawAt l (fldT l k).2).b 3))) (fun gh w => run_eq (by kernel_rfl) (i64_wrap (by omega) (by omega)))) ?_
      trivial
    rintro u31 b10 W11 S12 ⟨f31, -⟩
    replace f31 : Cells W11 (blkOf u31) (0 + k * 1) [.string (fname k)] := f31
    refine g_fact f31 ?_
    refine go0 15 [.b 0 1] [] ?_
    have frl : (fdRows (fldT l k).1 vs).length = k := by rw [fdRows_len hvs.len, fldT_len]
    have hvn := hvs.len
    have b2 := bnd2
    have b1 := bnd1
    by_cases q1 : pickL (rawAt l (fldT l k).2).k 3 = 1
    · obtain ⟨e1, e2⟩ := fldT_step l k (show srcE l (fldT l k).1 (rawAt l (fldT l k).2) (atNext l (fldT l k).2) = _ by unfold srcE; rw [if_pos q1])
      refine g_true (t := (1 + (pickL (rawAt l (fldT l k).2).k 3)) == 2) (beq_iff_eq.2 (by omega)) ?_
      refine go0 6 [.b 0 2, .b 4 0] [] ?_
      refine g_call1J 5 (fun a w hJ => hE2 bg (.slice A l.length cap) (atNext l (fldT l k).2) (1 + pickL (rawAt l (fldT l k).2).b 3) _ _ _ (hr.sees (S2.trans (S4.trans (S6.trans (S8.trans (S12.trans hJ.j.sees)))))) (by omega) (by omega) (by omega) ⟨vs, (hJ.j.rowLent (v := v) (e := 52) (k := 9) (l := fdRows (fldT l k).1 vs) (b := bg) (cs := [.slice A l.length cap, Vi ((atNext l (fldT l k).2 : Nat) : Int)]) 2 5 (by kernel_rfl) (by kernel_rfl)), ((hvs.sees (S8.trans (S12.trans hJ.j.sees)))).sees ((Sees.refl _).less (hJ.j.boxBad (b := bg) (cs := [.slice A l.length cap, Vi ((atNext l (fldT l k).2 : Nat) : Int)]) 5 (by kernel_rfl)))⟩ (by simp)) ?_; rintro _ _ W13 S14 ⟨u, rfl, rfl, hu⟩
      refine gov1 10 [.b 0 3, .b 4 0, .b 0 0, .fix] [] ?_
      intro b15 W16 S17
      refine goa0 10 [.ap 2 0 (fdRows (fldT l k).1 vs) [[.string (fname k), Vi (1 + (pickL (rawAt l (fldT l k).2).k 3)), Vi (1 + (pickL (rawAt l (fldT l k).2).b 3)), Vi (((genE l (fldT l k).1 2 (1 + pickL (rawAt l (fldT l k).2).b 3) (atNext l (fldT l k).2)).1).op), Vi (((genE l (fldT l k).1 2 (1 + pickL (rawAt l (fldT l k).2).b 3) (atNext l (fldT l k).2)).1).k), Vi (((genE l (fldT l k).1 2 (1 + pickL (rawAt l (fldT l k).2).b 3) (atNext l (fldT l k).2)).1).n), .string (((genE l (fldT l k).1 2 (1 + pickL (rawAt l (fldT l k).2).b 3) (atNext l (fldT l k).2)).1).s), .string (((genE l (fldT l k).1 2 (1 + pickL (rawAt l (fldT l k).2).b 3) (atNext l (fldT l k).2)).1).nm), .slice (sA u) (sN u) (sC u)]], .b 4 0] [(72, Vi (IntKind.i64.wrap ((k : Int) + 1)), Vi ((k : Int) + 1))] ?_ (ho := (And.intro (by rw [frl]; simp; omega) (trivial))) (hc := (And.intro (i64_wrap (by omega) (by omega)) (trivial)))
      intro v70 W18 S19
      refine g_is [(2, Vp br), (3, Vp bg), (4, Vp bf), (5, Vp bq), (25, Vi (1 + (pickL (rawAt l 0).a 10))), (26, Vi ((k : Int) + 1))] [.row (.slice (sA v70) (sN v70) (sC v70)) 52 9 ((fdRows (fldT l k).1 vs) ++ [[.string (fname k), Vi (1 + (pickL (rawAt l (fldT l k).2).k 3)), Vi (1 + (pickL (rawAt l (fldT l k).2).b 3)), Vi (((genE l (fldT l k).1 2 (1 + pickL (rawAt l (fldT l k).2).b 3) (atNext l (fldT l k).2)).1).op), Vi (((genE l (fldT l k).1 2 (1 + pickL (rawAt l (fldT l k).2).b 3) (atNext l (fldT l k).2)).1).k), Vi (((genE l (fldT l k).1 2 (1 + pickL (rawAt l (fldT l k).2).b 3) (atNext l (fldT l k).2)).1).n), .string (((genE l (fldT l k).1 2 (1 + pickL (rawAt l (fldT l k).2).b 3) (atNext l (fldT l k).2)).1).s), .string (((genE l (fldT l k).1 2 (1 + pickL (rawAt l (fldT l k).2).b 3) (atNext l (fldT l k).2)).1).nm), .slice (sA u) (sN u) (sC u)]]), .box bq [Vi ((rawAt l 0).k), Vi ((rawAt l 0).a), Vi ((rawAt l 0).b), .string ((rawAt l 0).t)], .box bf [.slice (sA v70) (sN v70) (sC v70), Vz], .box bg [.slice A l.length cap, Vi (((genE l (fldT l k).1 2 (1 + pickL (rawAt l (fldT l k).2).b 3) (atNext l (fldT l k).2)).2 : Nat) : Int)], .box br [Vz, Vz]] [((blkOf u22), 0 + 0 * 1, [.string (fname 0)])] ?_
      exact g_round (k + 1) (fun X q => ⟨W18, .slice (sA v70) (sN v70) (sC v70), vs ++ [.slice (sA u) (sN u) (sC u)], q _ _ _ _ (says_ents (by rw [e1, fdRows_snoc hvn, e2]; try rfl)), (S6.trans (S8.trans (S12.trans (S14.trans (S17.trans S19))))), by omega, fld_src e1 (hvs.sees (S8.trans (S12.trans (S14.trans (S17.trans S19))))) (hu.sees (S17.trans S19)), slu_snoc hvl rfl⟩) (by omega)
    · skip
      by_cases q2 : pickL (rawAt l (fldT l k).2).k 3 = 2
      · obtain ⟨e1, e2⟩ := fldT_step l k (show srcE l (fldT l k).1 (rawAt l (fldT l k).2) (atNext l (fldT l k).2) = _ by unfold srcE; rw [if_neg q1, if_pos q2])
        refine g_false (t := (1 + (pickL (rawAt l (fldT l k).2).k 3)) == 2) (beq_eq_false_iff_ne.2 (by omega)) ?_
        refine go0 6 [] [] ?_
        refine g_true (t := (1 + (pickL (rawAt l (fldT l k).2).k 3)) == 3) (beq_iff_eq.2 (by omega)) ?_
        refine g_reg 10 0 [.pu, .pu, .ld 1 1, .v (fun gh => Vi (pickL (rawAt l (fldT l k).2).a 3)), .v (fun gh => Vi (1 + (pickL (rawAt l (fldT l k).2).a 3))), .pu, .ld 4 0, .ef (fun gh => .agg #[Vi (((genE l (fldT l k).1 1 (1 + pickL (rawAt l (fldT l k).2).a 3) (atNext l (fldT l k).2)).1).op), Vi (((genE l (fldT l k).1 1 (1 + pickL (rawAt l (fldT l k).2).a 3) (atNext l (fldT l k).2)).1).k), Vi (((genE l (fldT l k).1 1 (1 + pickL (rawAt l (fldT l k).2).a 3) (atNext l (fldT l k).2)).1).n), .string (((genE l (fldT l k).1 1 (1 + pickL (rawAt l (fldT l k).2).a 3) (atNext l (fldT l k).2)).1).s), .string (((genE l (fldT l k).1 1 (1 + pickL (rawAt l (fldT l k).2).a 3) (atNext l (fldT l k).2)).1).nm), .slice (sA (gh 7)) (sN (gh 7)) (sC (gh 7))]) 5 (fun gh => .box bg [.slice A l.length cap, Vi (((genE l (fldT l k).1 1 (1 + pickL (rawAt l (fldT l k).2).a 3) (atNext l (fldT l k).2)).2 : Nat) : Int)]) (fun gh hh => IsArgs hh (genE l (fldT l k).1 1 (1 + pickL (rawAt l (fldT l k).2).a 3) (atNext l (fldT l k).2)).1 (.slice (sA (gh 7)) (sN (gh 7)) (sC (gh 7)))), .pu, .st 0 3] [(7, false)] (And.intro (fun _ _ _ s c => c.sees s) (trivial)) ?_ ?_
        · intro R hT hA hmono
          refine And.intro (t_v hT hA hmono (k := 9) (args := (fun gh => #[Vi ((rawAt l (fldT l k).2).a), Vi 3])) (f := fun gh => Vi (pickL (rawAt l (fldT l k).2).a 3)) (fun gh H sH fH lent => c_picked _ 3 _ ra0 ra1 (by omega) (by omega))) ?_
          refine And.intro (t_p hT hA (fun gh => Vi (1 + (pickL (rawAt l (fldT l k).2).a 3))) (fun gh w => run_eq (by kernel_rfl) (i64_wrap (by omega) (by omega)))) ?_
          refine And.intro (r_call1r hT hA hmono ⟨fun _ _ => by kernel_rfl, fun _ _ => by kernel_rfl, fun _ _ => by kernel_rfl⟩ 64 (fun u => .agg #[Vi ((genE l (fldT l k).1 1 (1 + pickL (rawAt l (fldT l k).2).a 3) (atNext l (fldT l k).2)).1).op, Vi ((genE l (fldT l k).1 1 (1 + pickL (rawAt l (fldT l k).2).a 3) (atNext l (fldT l k).2)).1).k, Vi ((genE l (fldT l k).1 1 (1 + pickL (rawAt l (fldT l k).2).a 3) (atNext l (fldT l k).2)).1).n, .string ((genE l (fldT l k).1 1 (1 + pickL (rawAt l (fldT l k).2).a 3) (atNext l (fldT l k).2)).1).s, .string ((genE l (fldT l k).1 1 (1 + pickL (rawAt l (fldT l k).2).a 3) (atNext l (fldT l k).2)).1).nm, .slice (sA u) (sN u) (sC u)]) [0, 3, 4, 6] 7 (by kernel_rfl) (fun _ => by kernel_rfl) 5 (GN R 5) (by kernel_rfl) (by kernel_rfl) (by kernel_rfl) bg (fun gh => [.slice A l.length cap, Vi ((atNext l (fldT l k).2 : Nat) : Int)]) (fun gh => [.slice A l.length cap, Vi (((genE l (fldT l k).1 1 (1 + pickL (rawAt l (fldT l k).2).a 3) (atNext l (fldT l k).2)).2 : Nat) : Int)]) (fun _ => by kernel_rfl) (fun _ => by kernel_rfl) 2 (GN R 2) (by kernel_rfl) (by kernel_rfl) v 52 9 (fdRows (fldT l k).1 vs) (fun _ => by kernel_rfl) 13 (fun gh => #[Vp bg, Vi (1 + (pickL (rawAt l (fldT l k).2).a 3)), v, Vi 1]) (fun _ _ => by kernel_rfl) (fun gh H sH fH rL bL => C1.facts (R := R) (x := gh) (N' := fun gh => [.slice A l.length cap, Vi (((genE l (fldT l k).1 1 (1 + pickL (rawAt l (fldT l k).2).a 3) (atNext l (fldT l k).2)).2 : Nat) : Int)]) (i := 7) (n := 0) (F := (fun u => .agg #[Vi ((genE l (fldT l k).1 1 (1 + pickL (rawAt l (fldT l k).2).a 3) (atNext l (fldT l k).2)).1).op, Vi ((genE l (fldT l k).1 1 (1 + pickL (rawAt l (fldT l k).2).a 3) (atNext l (fldT l k).2)).1).k, Vi ((genE l (fldT l k).1 1 (1 + pickL (rawAt l (fldT l k).2).a 3) (atNext l (fldT l k).2)).1).n, .string ((genE l (fldT l k).1 1 (1 + pickL (rawAt l (fldT l k).2).a 3) (atNext l (fldT l k).2)).1).s, .string ((genE l (fldT l k).1 1 (1 + pickL (rawAt l (fldT l k).2).a 3) (atNext l (fldT l k).2)).1).nm, .slice (sA u) (sN u) (sC u)])) (N := fun u => [.slice A l.length cap, Vi (((genE l (fldT l k).1 1 (1 + pickL (rawAt l (fldT l k).2).a 3) (atNext l (fldT l k).2)).2 : Nat) : Int)]) (G := fun u hh => IsArgs hh (genE l (fldT l k).1 1 (1 + pickL (rawAt l (fldT l k).2).a 3) (atNext l (fldT l k).2)).1 (.slice (sA u) (sN u) (sC u))) (f := fun gh hh => IsArgs hh (genE l (fldT l k).1 1 (1 + pickL (rawAt l (fldT l k).2).a 3) (atNext l (fldT l k).2)).1 (.slice (sA (gh 7)) (sN (gh 7)) (sC (gh 7)))) (hE1 bg (.slice A l.length cap) (atNext l (fldT l k).2) (1 + pickL (rawAt l (fldT l k).2).a 3) _ _ _ (hr.sees (S2.trans (S4.trans (S6.trans (S8.trans (S12.trans sH)))))) (by omega) (by omega) (by omega) ⟨vs, rL, ((hvs.sees (S8.trans (S12.trans sH)))).sees ((Sees.refl _).less bL)⟩ (by simp)) (by kernel_rfl) (by kernel_rfl) (fun _ => by kernel_rfl) (fun _ _ r => r))) ?_
          trivial
        rintro u W20 S21 ⟨hu, -⟩
        replace hu : IsArgs W20 (genE l (fldT l k).1 1 (1 + pickL (rawAt l (fldT l k).2).a 3) (atNext l (fldT l k).2)).1 (.slice (sA u) (sN u) (sC u)) := hu
        refine gov1 7 [.b 4 0, .b 0 0, .fix] [] ?_
        intro b22 W23 S24
        refine goa0 10 [.ap 2 0 (fdRows (fldT l k).1 vs) [[.string (fname k), Vi (1 + (pickL (rawAt l (fldT l k).2).k 3)), Vi (1 + (pickL (rawAt l (fldT l k).2).b 3)), Vi (((genE l (fldT l k).1 1 (1 + pickL (rawAt l (fldT l k).2).a 3) (atNext l (fldT l k).2)).1).op), Vi (((genE l (fldT l k).1 1 (1 + pickL (rawAt l (fldT l k).2).a 3) (atNext l (fldT l k).2)).1).k), Vi (((genE l (fldT l k).1 1 (1 + pickL (rawAt l (fldT l k).2).a 3) (atNext l (fldT l k).2)).1).n), .string (((genE l (fldT l k).1 1 (1 + pickL (rawAt l (fldT l k).2).a 3) (atNext l (fldT l k).2)).1).s), .string (((genE l (fldT l k).1 1 (1 + pickL (rawAt l (fldT l k).2).a 3) (atNext l (fldT l k).2)).1).nm), .slice (sA u) (sN u) (sC u)]], .b 4 0] [(72, Vi (IntKind.i64.wrap ((k : Int) + 1)), Vi ((k : Int) + 1))] ?_ (ho := (And.intro (by rw [frl]; simp; omega) (trivial))) (hc := (And.intro (i64_wrap (by omega) (by omega)) (trivial)))
        intro v70 W25 S26
        refine g_is [(2, Vp br), (3, Vp bg), (4, Vp bf), (5, Vp bq), (25, Vi (1 + (pickL (rawAt l 0).a 10))), (26, Vi ((k : Int) + 1))] [.row (.slice (sA v70) (sN v70) (sC v70)) 52 9 ((fdRows (fldT l k).1 vs) ++ [[.string (fname k), Vi (1 + (pickL (rawAt l (fldT l k).2).k 3)), Vi (1 + (pickL (rawAt l (fldT l k).2).b 3)), Vi (((genE l (fldT l k).1 1 (1 + pickL (rawAt l (fldT l k).2).a 3) (atNext l (fldT l k).2)).1).op), Vi (((genE l (fldT l k).1 1 (1 + pickL (rawAt l (fldT l k).2).a 3) (atNext l (fldT l k).2)).1).k), Vi (((genE l (fldT l k).1 1 (1 + pickL (rawAt l (fldT l k).2).a 3) (atNext l (fldT l k).2)).1).n), .string (((genE l (fldT l k).1 1 (1 + pickL (rawAt l (fldT l k).2).a 3) (atNext l (fldT l k).2)).1).s), .string (((genE l (fldT l k).1 1 (1 + pickL (rawAt l (fldT l k).2).a 3) (atNext l (fldT l k).2)).1).nm), .slice (sA u) (sN u) (sC u)]]), .box bq [Vi ((rawAt l 0).k), Vi ((rawAt l 0).a), Vi ((rawAt l 0).b), .string ((rawAt l 0).t)], .box bf [.slice (sA v70) (sN v70) (sC v70), Vz], .box bg [.slice A l.length cap, Vi (((genE l (fldT l k).1 1 (1 + pickL (rawAt l (fldT l k).2).a 3) (atNext l (fldT l k).2)).2 : Nat) : Int)], .box br [Vz, Vz]] [((blkOf u22), 0 + 0 * 1, [.string (fname 0)])] ?_
        exact g_round (k + 1) (fun X q => ⟨W25, .slice (sA v70) (sN v70) (sC v70), vs ++ [.slice (sA u) (sN u) (sC u)], q _ _ _ _ (says_ents (by rw [e1, fdRows_snoc hvn, e2]; try rfl)), (S6.trans (S8.trans (S12.trans (S21.trans (S24.trans S26))))), by omega, fld_src e1 (hvs.sees (S8.trans (S12.trans (S21.trans (S24.trans S26))))) (hu.sees (S24.trans S26)), slu_snoc hvl rfl⟩) (by omega)
      · skip
        obtain ⟨e1, e2⟩ := fldT_step l k (show srcE l (fldT l k).1 (rawAt l (fldT l k).2) (atNext l (fldT l k).2) = _ by unfold srcE; rw [if_neg q1, if_neg q2])
        refine g_false (t := (1 + (pickL (rawAt l (fldT l k).2).k 3)) == 2) (beq_eq_false_iff_ne.2 (by omega)) ?_
        refine go0 6 [] [] ?_
        refine g_false (t := (1 + (pickL (rawAt l (fldT l k).2).k 3)) == 3) (beq_eq_false_iff_ne.2 (by omega)) ?_
        refine gov1 8 [.b 4 0, .b 0 0, .fix] [] ?_
        intro b27 W28 S29
        refine goa0 10 [.ap 2 0 (fdRows (fldT l k).1 vs) [[.string (fname k), Vi (1 + (pickL (rawAt l (fldT l k).2).k 3)), Vi (1 + (pickL (rawAt l (fldT l k).2).b 3)), Vi 0, Vi 0, Vi 0, Ve, Ve, Vz]], .b 4 0] [(72, Vi (IntKind.i64.wrap ((k : Int) + 1)), Vi ((k : Int) + 1))] ?_ (ho := (And.intro (by rw [frl]; simp; omega) (trivial))) (hc := (And.intro (i64_wrap (by omega) (by omega)) (trivial)))
        intro v70 W30 S31
        refine g_is [(2, Vp br), (3, Vp bg), (4, Vp bf), (5, Vp bq), (25, Vi (1 + (pickL (rawAt l 0).a 10))), (26, Vi ((k : Int) + 1))] [.row (.slice (sA v70) (sN v70) (sC v70)) 52 9 ((fdRows (fldT l k).1 vs) ++ [[.string (fname k), Vi (1 + (pickL (rawAt l (fldT l k).2).k 3)), Vi (1 + (pickL (rawAt l (fldT l k).2).b 3)), Vi 0, Vi 0, Vi 0, Ve, Ve, Vz]]), .box bq [Vi ((rawAt l 0).k), Vi ((rawAt l 0).a), Vi ((rawAt l 0).b), .string ((rawAt l 0).t)], .box bf [.slice (sA v70) (sN v70) (sC v70), Vz], .box bg [.slice A l.length cap, Vi ((atNext l (fldT l k).2 : Nat) : Int)], .box br [Vz, Vz]] [((blkOf u22), 0 + 0 * 1, [.string (fname 0)])] ?_
        exact g_round (k + 1) (fun X q => ⟨W30, .slice (sA v70) (sN v70) (sC v70), vs ++ [Vz], q _ _ _ _ (says_ents (by rw [e1, fdRows_snoc hvn, e2]; try rfl)), (S6.trans (S8.trans (S12.trans (S29.trans S31)))), by omega, fld_src e1 (hvs.sees (S8.trans (S12.trans (S29.trans S31)))) (args_nil _ _ rfl), slu_snoc hvl rfl⟩) (by omega)
  · skip
    subst hke
    have tle := fldT_le l (nFields l)
    have fle := fldT_len l (nFields l)
    have frl : (fdRows (fldT l (nFields l)).1 vs).length = nFields l := by rw [fdRows_len hvs.len, fle]
    have hskp : ∀ d, d < 1000 → ExprC l (fldT l (nFields l)).1 d := exprC_all l _ hlen hok (by omega)
    have hE1 := hskp 1 (by omega)
    have hfm : formE l = ⟨if pickL (rawAt l 0).k 2 = 0 then (fldT l (nFields l)).1.reverse else (fldT l (nFields l)).1, (pgT l (fldT l (nFields l)).1 (nPages l) (fldT l (nFields l)).2 (nPages l)).1⟩ := rfl
    generalize fldT l (nFields l) = T at *
    refine g_form 0 (v := v) (e := 52) (kk := 9) (l := fdRows T.1 vs) ?_; intro Af cf hE_v hc_v hm_v
    rw [show (fdRows T.1 vs).length = (nFields l) from by first | omega | (simp; done) | (simp; omega)] at hE_v hc_v
    rw [hE_v]
    refine g_get (fun a w hJ => own_some (hJ.rowOwn (v := .slice Af (nFields l) cf) (e := 52) (kk := 9) (l := fdRows T.1 vs) 0 (by kernel_rfl)) ((by omega))) ?_; rintro ⟨bF, rfl⟩
    obtain ⟨np1, np2, np3⟩ := nPages_le l
    refine g_false (t := decide (((nFields l : Nat) : Int) < (1 + (pickL (rawAt l 0).a 10)))) (decide_eq_false (by omega)) ?_
    refine go0 2 [] [] ?_
    refine g_leave ?_
    refine go0 19 [.b 1 2, .cl 9 #[Vi ((rawAt l 0).b), Vi 4] (Vi (pickL (rawAt l 0).b 4))] [(76, Vi (IntKind.i64.wrap (1 + (pickL (rawAt l 0).b 4))), Vi ((nPages l : Nat) : Int))] ?_ (ho := (And.intro (fun H sH => c_picked _ 4 _ rb0 rb1 (by omega) (by omega)) (trivial))) (hc := (And.intro (by rw [np3]; exact i64_wrap (by omega) (by omega)) (trivial)))
    refine g_nilrow 38 8 ?_
    refine g_loop [0, 1, 0, 1, 1, 1, 1, 1, 1] [.block 3, .seq [1, 1, 1, 1, 1, 1, 1]] (fun (kp : Nat) X => ∃ (W32 : Vw) (pv : Value) (us : List Value) (ws : List Value), X W32 [(2, Vp br), (3, Vp bg), (4, Vp bf), (5, Vp bq), (9, Vi ((nPages l : Nat) : Int)), (77, Vi ((nPages l : Nat) : Int)), (78, Vi (kp : Int))] [.row pv 38 8 (pgRows (pgT l T.1 (nPages l) T.2 kp).1 us ws), .row (Vs bF (nFields l) cf) 52 9 (fdRows T.1 vs), .box bq [Vi ((rawAt l 0).k), Vi ((rawAt l 0).a), Vi ((rawAt l 0).b), .string ((rawAt l 0).t)], .box bf [Vs bF (nFields l) cf, pv], .box bg [.slice A l.length cap, Vi (((pgT l T.1 (nPages l) T.2 kp).2 : Nat) : Int)], .box br [Vz, Vz]] [((blkOf u22), 0 + 0 * 1, [.string (fname 0)])] ∧ Sees W5 W32 ∧ (kp ≤ nPages l) ∧ (AllStr W32 ((pgT l T.1 (nPages l) T.2 kp).1.map (·.fields)) us) ∧ (AllArgs W32 ((pgT l T.1 (nPages l) T.2 kp).1.map (·.skip)) ws) ∧ (∀ u ∈ us, .slice (sA u) (sN u) (sC u) = u) ∧ (∀ u ∈ ws, .slice (sA u) (sN u) (sC u) = u)) (fun kp => nPages l - kp) (0) (fun X q => ⟨W5, (Vz), [], [], q _ _ _ _ ⟨rfl, by kernel_rfl⟩, Sees.refl _, Nat.zero_le _, rfl, by unfold AllArgs; rfl, (fun _ h => by cases h), fun _ h => by cases h⟩) ?_
    rintro kp a w ⟨W32, pv, us, ws, hJ, S33, hkp, hus, hws, hul, hwl⟩; refine g_of hJ ?_; clear hJ a w
    refine go0 6 [] [] ?_
    rcases (by omega : kp < nPages l ∨ kp = nPages l) with hpl | hpe
    · have ple := pgT_le l T.1 (nPages l) T.2 kp
      have anp := atNext_le l (pgT l T.1 (nPages l) T.2 kp).2
      obtain ⟨⟨rk0, rk1⟩, -, -, -⟩ := rawAt_ok hok (pgT l T.1 (nPages l) T.2 kp).2
      refine g_true (t := decide ((kp : Int) < ((nPages l : Nat) : Int))) (decide_eq_true (by omega)) ?_
      refine go0 13 [] [] ?_
      refine g_call1 4 (fun H sH => gen_next_any bg l (.slice A l.length cap) (pgT l T.1 (nPages l) T.2 kp).2 _ (hr.sees (S2.trans (S4.trans (S6.trans (S33.trans sH))))) (by omega) hlen) ?_; rintro _ _ W34 S35 ⟨rfl, rfl⟩
      refine go1 8 [.own, .b 0 0] [(84, Vi (IntKind.i64.wrap (49 + (kp : Int))), Vi (49 + (kp : Int)))] ?_ (hc := (And.intro (i64_wrap (by omega) (by omega)) (trivial)))
      intro b36
      refine g_pure (.int .u8 (((UInt8.ofNat (49 + kp)).toNat : Nat) : Int)) (fun w => run_eq (v0 := .int .u8 (IntKind.u8.wrap (49 + (kp : Int)))) (by kernel_rfl) (byte_of kp (by omega))) ?_
      refine gov1 1 [.fix] [] ?_
      intro bz W37 S38
      refine g_cells 0 bz 0 [.int .u8 (((UInt8.ofNat (49 + kp)).toNat : Nat) : Int)] fun z => ?_
      refine g_purew (.string ⟨([UInt8.ofNat (49 + kp)]).toArray⟩) (fun a w hJ => run_text (src := 54) (dst := 9) (x := (.tmp 86)) (b := bz) (m := 1) (cap := 1) (l := [UInt8.ofNat (49 + kp)]) (by kernel_rfl) (by kernel_rfl) (by kernel_rfl) Try.underlying54 Try.underlying5 Try.underlying9 (hJ.f (bz, 0, _) (List.mem_of_getElem? (i := 0) (by kernel_rfl))) hJ.j.sees) ?_
      refine go1 16 [.own, .b 0 0, .b 5 0] [(88, .string (⟨#[112]⟩ ++ ⟨([UInt8.ofNat (49 + kp)]).toArray⟩), .string (pgName kp))] ?_ (hc := (And.intro (pg_name kp (by omega)) (trivial)))
      intro bp
      refine g_nilrow 9 1 ?_
      refine g_loop [0, 1, 0, 1, 1, 1, 0, 0, 1, 1, 0, 0, 1, 0, 1, 1, 1, 1, 1, 1] [.block 5, .seq [1, 1, 1, 1, 0, 0, 1, 1, 0, 0, 1, 0, 1, 1, 1, 1, 1, 1], .block 4, .seq [1, 1, 1, 0, 0, 1, 0, 1, 1, 1, 1, 1, 1]] (fun (ki : Nat) X => ∃ (W39 : Vw) (nv : Value), X W39 [(2, Vp br), (3, Vp bg), (4, Vp bf), (5, Vp bq), (9, Vi ((nPages l : Nat) : Int)), (77, Vi ((nPages l : Nat) : Int)), (78, Vi (kp : Int)), (10, Vi (kp : Int)), (11, Vp b36), (12, Vp bp), (91, Vs bF (nFields l) cf), (92, Vi (nFields l : Int)), (93, Vi (ki : Int))] [.row nv 9 1 (strRows (pgNames (T.1.take ki) (nPages l) kp)), .box bp [.string (pgName kp), nv, Vi 0, Vi 0, Vi 0, Ve, Ve, Vz], .box b36 [Vi ((rawAt l (pgT l T.1 (nPages l) T.2 kp).2).k), Vi ((rawAt l (pgT l T.1 (nPages l) T.2 kp).2).a), Vi ((rawAt l (pgT l T.1 (nPages l) T.2 kp).2).b), .string ((rawAt l (pgT l T.1 (nPages l) T.2 kp).2).t)], .row pv 38 8 (pgRows (pgT l T.1 (nPages l) T.2 kp).1 us ws), .row (Vs bF (nFields l) cf) 52 9 (fdRows T.1 vs), .box bq [Vi ((rawAt l 0).k), Vi ((rawAt l 0).a), Vi ((rawAt l 0).b), .string ((rawAt l 0).t)], .box bf [Vs bF (nFields l) cf, pv], .box bg [.slice A l.length cap, Vi ((atNext l (pgT l T.1 (nPages l) T.2 kp).2 : Nat) : Int)], .box br [Vz, Vz]] [(bz, 0, [.int .u8 (((UInt8.ofNat (49 + kp)).toNat : Nat) : Int)]), ((blkOf u22), 0 + 0 * 1, [.string (fname 0)])] ∧ Sees W37 W39 ∧ (ki ≤ nFields l)) (fun ki => nFields l - ki) (0) (fun X q => ⟨W37, (Vz), q _ _ _ _ ⟨rfl, by kernel_rfl⟩, Sees.refl _, Nat.zero_le _⟩) ?_
      rintro ki a w ⟨W39, nv, hJ, S40, hki⟩; refine g_of hJ ?_; clear hJ a w
      refine go0 6 [] [] ?_
      rcases (by omega : ki < nFields l ∨ ki = nFields l) with hil | hie
      · obtain ⟨f, hfk⟩ : ∃ f, T.1[ki]? = some f := ⟨_, List.getElem?_eq_getElem (by omega)⟩
        obtain ⟨u, huk⟩ : ∃ u, vs[ki]? = some u := ⟨_, List.getElem?_eq_getElem (by have := hvs.len; omega)⟩
        have hslu := hvl u (List.mem_of_getElem? huk)
        have hrow : (fdRows T.1 vs)[ki]? = some (fdRow f (.slice (sA u) (sN u) (sC u))) := by rw [hslu]; exact fdRows_get hfk huk
        have hsn := pgNames_snoc (T.1.take ki) (nPages l) kp f ki (by rw [List.length_take]; omega)
        rw [← take_snoc' T.1 ki f hfk] at hsn
        have hnl := pgNames_len (T.1.take ki) (nPages l) kp
        rw [List.length_take] at hnl
        have hme := mod_eq ki (nPages l) kp
        refine g_true (t := decide ((ki : Int) < (nFields l : Int))) (decide_eq_true (by omega)) ?_
        refine go0 8 [.ix bF 0 (nFields l) cf ki] [] ?_ (ho := (And.intro (by first | omega | (simp; omega)) (trivial)))
        refine g_rowget 4 ki 0 (g := bF) (m := (nFields l)) (cap := cf) (kk := 9) (e := 52) (l := fdRows T.1 vs) (r := [.string f.name, Vi f.kind, Vi f.ty, Vi f.src.op, Vi f.src.k, Vi f.src.n, .string f.src.s, .string f.src.nm, .slice (sA u) (sN u) (sC u)]) (t := 52) (x := (.tmp 96)) (v := .agg #[.string f.name, Vi f.kind, Vi f.ty, Vi f.src.op, Vi f.src.k, Vi f.src.n, .string f.src.s, .string f.src.nm, .slice (sA u) (sN u) (sC u)]) (hrow) ?_
        refine go1 10 [.own, .b 0 0] [(100, Vi (IntKind.i64.wrap (((nPages l : Nat) : Int) + 1)), Vi (((nPages l : Nat) : Int) + 1))] ?_ (hc := (And.intro (i64_wrap (by omega) (by omega)) (trivial)))
        intro b41
        refine g_pure (Vi ((ki : Int) % (((nPages l : Nat) : Int) + 1))) (fun w => run_bin (op := .rem) (t := 3) (x := (.tmp 98)) (y := (.tmp 100)) (yt := 3) (by kernel_rfl) (by kernel_rfl) (by kernel_rfl) (by kernel_rfl) (run_rem (ki : Int) (((nPages l : Nat) : Int) + 1) w (by omega) (by omega))) ?_
        refine go0 4 [] [] ?_
        by_cases hq : ki % (nPages l + 1) = kp
        · rw [if_pos hq] at hsn
          rw [decide_eq_true hq] at hme
          refine g_true (t := ((ki : Int) % (((nPages l : Nat) : Int) + 1)) == (kp : Int)) (hme) ?_
          refine gov1 6 [.b 2 1, .b 0 0, .fix] [] ?_
          intro b42 W43 S44
          refine goa0 10 [.ap 1 0 (strRows (pgNames (T.1.take ki) (nPages l) kp)) [[.string f.name]], .b 2 1] [(111, Vi (IntKind.i64.wrap ((ki : Int) + 1)), Vi ((ki : Int) + 1))] ?_ (ho := (And.intro (by simp; omega) (trivial))) (hc := (And.intro (i64_wrap (by omega) (by omega)) (trivial)))
          intro nv2 W45 S46
          refine g_is [(2, Vp br), (3, Vp bg), (4, Vp bf), (5, Vp bq), (9, Vi ((nPages l : Nat) : Int)), (77, Vi ((nPages l : Nat) : Int)), (78, Vi (kp : Int)), (10, Vi (kp : Int)), (11, Vp b36), (12, Vp bp), (91, Vs bF (nFields l) cf), (92, Vi (nFields l : Int)), (93, Vi ((ki : Int) + 1))] [.row (.slice (sA nv2) (sN nv2) (sC nv2)) 9 1 ((strRows (pgNames (T.1.take ki) (nPages l) kp)) ++ [[.string f.name]]), .box bp [.string (pgName kp), .slice (sA nv2) (sN nv2) (sC nv2), Vi 0, Vi 0, Vi 0, Ve, Ve, Vz], .box b36 [Vi ((rawAt l (pgT l T.1 (nPages l) T.2 kp).2).k), Vi ((rawAt l (pgT l T.1 (nPages l) T.2 kp).2).a), Vi ((rawAt l (pgT l T.1 (nPages l) T.2 kp).2).b), .string ((rawAt l (pgT l T.1 (nPages l) T.2 kp).2).t)], .row pv 38 8 (pgRows (pgT l T.1 (nPages l) T.2 kp).1 us ws), .row (Vs bF (nFields l) cf) 52 9 (fdRows T.1 vs), .box bq [Vi ((rawAt l 0).k), Vi ((rawAt l 0).a), Vi ((rawAt l 0).b), .string ((rawAt l 0).t)], .box bf [Vs bF (nFields l) cf, pv], .box bg [.slice A l.length cap, Vi ((atNext l (pgT l T.1 (nPages l) T.2 kp).2 : Nat) : Int)], .box br [Vz, Vz]] [(bz, 0, [.int .u8 (((UInt8.ofNat (49 + kp)).toNat : Nat) : Int)]), ((blkOf u22), 0 + 0 * 1, [.string (fname 0)])] ?_
          exact g_round (ki + 1) (fun X q => ⟨W45, .slice (sA nv2) (sN nv2) (sC nv2), q _ _ _ _ (says_ents (by rw [hsn]; simp [strRows])), (S40.trans (S44.trans S46)), by omega⟩) (by omega)
        · skip
          rw [if_neg hq] at hsn
          rw [decide_eq_false hq] at hme
          refine g_false (t := ((ki : Int) % (((nPages l : Nat) : Int) + 1)) == (kp : Int)) (hme) ?_
          refine go0 7 [] [(111, Vi (IntKind.i64.wrap ((ki : Int) + 1)), Vi ((ki : Int) + 1))] ?_ (hc := (And.intro (i64_wrap (by omega) (by omega)) (trivial)))
          refine g_is [(2, Vp br), (3, Vp bg), (4, Vp bf), (5, Vp bq), (9, Vi ((nPages l : Nat) : Int)), (77, Vi ((nPages l : Nat) : Int)), (78, Vi (kp : Int)), (10, Vi (kp : Int)), (11, Vp b36), (12, Vp bp), (91, Vs bF (nFields l) cf), (92, Vi (nFields l : Int)), (93, Vi ((ki : Int) + 1))] [.row nv 9 1 (strRows (pgNames (T.1.take ki) (nPages l) kp)), .box bp [.string (pgName kp), nv, Vi 0, Vi 0, Vi 0, Ve, Ve, Vz], .box b36 [Vi ((rawAt l (pgT l T.1 (nPages l) T.2 kp).2).k), Vi ((rawAt l (pgT l T.1 (nPages l) T.2 kp).2).a), Vi ((rawAt l (pgT l T.1 (nPages l) T.2 kp).2).b), .string ((rawAt l (pgT l T.1 (nPages l) T.2 kp).2).t)], .row pv 38 8 (pgRows (pgT l T.1 (nPages l) T.2 kp).1 us ws), .row (Vs bF (nFields l) cf) 52 9 (fdRows T.1 vs), .box bq [Vi ((rawAt l 0).k), Vi ((rawAt l 0).a), Vi ((rawAt l 0).b), .string ((rawAt l 0).t)], .box bf [Vs bF (nFields l) cf, pv], .box bg [.slice A l.length cap, Vi ((atNext l (pgT l T.1 (nPages l) T.2 kp).2 : Nat) : Int)], .box br [Vz, Vz]] [(bz, 0, [.int .u8 (((UInt8.ofNat (49 + kp)).toNat : Nat) : Int)]), ((blkOf u22), 0 + 0 * 1, [.string (fname 0)])] ?_
          exact g_round (ki + 1) (fun X q => ⟨W39, nv, q _ _ _ _ (says_ents (by rw [hsn]; try rfl)), S40, by omega⟩) (by omega)
      · skip
        subst hie
        have htk : T.1.take (nFields l) = T.1 := by rw [← fle, List.take_length]
        rw [htk]
        have spn : (strRows (pgNames T.1 (nPages l) kp)).length = (pgNames T.1 (nPages l) kp).length := List.length_map _
        refine g_form 0 (v := nv) (e := 9) (kk := 1) (l := strRows (pgNames T.1 (nPages l) kp)) ?_; intro An cn hE_nv hc_nv hm_nv
        rw [show (strRows (pgNames T.1 (nPages l) kp)).length = (pgNames T.1 (nPages l) kp).length from by first | omega | (simp; done) | (simp; omega)] at hE_nv hc_nv
        rw [hE_nv]
        refine g_freeze 0 (v := .slice An ((pgNames T.1 (nPages l) kp).length) cn) (e := 9) (kk := 1) (l := strRows (pgNames T.1 (nPages l) kp)) ?_; intro W47 S48 fnm
        have prl : (pgRows (pgT l T.1 (nPages l) T.2 kp).1 us ws).length = kp := by rw [pgRows_len (by rw [hus.len, List.length_map]) (by rw [hws.len, List.length_map]), pgT_len]
        have hul' : us.length = (pgT l T.1 (nPages l) T.2 kp).1.length := by rw [hus.len, List.length_map]
        have hwl' : ws.length = (pgT l T.1 (nPages l) T.2 kp).1.length := by rw [hws.len, List.length_map]
        have b1 := bnd1
        refine g_false (t := decide (((nFields l : Nat) : Int) < (nFields l : Int))) (decide_eq_false (by omega)) ?_
        refine go0 2 [] [] ?_
        refine g_leave ?_
        refine go0 11 [.b 1 0, .cl 9 #[Vi ((rawAt l (pgT l T.1 (nPages l) T.2 kp).2).k), Vi 2] (Vi (pickL (rawAt l (pgT l T.1 (nPages l) T.2 kp).2).k 2))] [] ?_ (ho := (And.intro (fun H sH => c_picked _ 2 _ rk0 rk1 (by omega) (by omega)) (trivial)))
        by_cases q0 : pickL (rawAt l (pgT l T.1 (nPages l) T.2 kp).2).k 2 = 0
        · obtain ⟨e1, e2⟩ := pgT_step l T.1 (nPages l) T.2 kp (show skipE l T.1 (rawAt l (pgT l T.1 (nPages l) T.2 kp).2) (atNext l (pgT l T.1 (nPages l) T.2 kp).2) = _ by unfold skipE; rw [if_pos q0])
          refine g_true (t := (pickL (rawAt l (pgT l T.1 (nPages l) T.2 kp).2).k 2) == 0) (beq_iff_eq.2 q0) ?_
          refine go0 4 [.b 5 0] [] ?_
          refine g_call1J 6 (fun a w hJ => hE1 bg (.slice A l.length cap) (atNext l (pgT l T.1 (nPages l) T.2 kp).2) 2 _ _ _ (hr.sees (S2.trans (S4.trans (S6.trans (S33.trans (S35.trans (S38.trans (S40.trans (S48.trans hJ.j.sees))))))))) (by omega) (by omega) (by omega) ⟨vs, (hJ.j.rowLent (v := Vs bF (nFields l) cf) (e := 52) (k := 9) (l := fdRows T.1 vs) (b := bg) (cs := [.slice A l.length cap, Vi ((atNext l (pgT l T.1 (nPages l) T.2 kp).2 : Nat) : Int)]) 3 6 (by kernel_rfl) (by kernel_rfl)), ((hvs.sees (S33.trans (S35.trans (S38.trans (S40.trans (S48.trans hJ.j.sees))))))).sees ((Sees.refl _).less (hJ.j.boxBad (b := bg) (cs := [.slice A l.length cap, Vi ((atNext l (pgT l T.1 (nPages l) T.2 kp).2 : Nat) : Int)]) 6 (by kernel_rfl)))⟩ (by simp)) ?_; rintro _ _ W49 S50 ⟨u, rfl, rfl, hu⟩
          refine gov1 9 [.b 0 2, .b 5 1, .b 0 0, .fix] [] ?_
          intro b51 W52 S53
          refine goa0 10 [.ap 2 0 (pgRows (pgT l T.1 (nPages l) T.2 kp).1 us ws) [[.string (pgName kp), .slice An ((pgNames T.1 (nPages l) kp).length) cn, Vi (((genE l T.1 1 2 (atNext l (pgT l T.1 (nPages l) T.2 kp).2)).1).op), Vi (((genE l T.1 1 2 (atNext l (pgT l T.1 (nPages l) T.2 kp).2)).1).k), Vi (((genE l T.1 1 2 (atNext l (pgT l T.1 (nPages l) T.2 kp).2)).1).n), .string (((genE l T.1 1 2 (atNext l (pgT l T.1 (nPages l) T.2 kp).2)).1).s), .string (((genE l T.1 1 2 (atNext l (pgT l T.1 (nPages l) T.2 kp).2)).1).nm), .slice (sA u) (sN u) (sC u)]], .b 5 1] [(127, Vi (IntKind.i64.wrap ((kp : Int) + 1)), Vi ((kp : Int) + 1))] ?_ (ho := (And.intro (by rw [prl]; simp; omega) (trivial))) (hc := (And.intro (i64_wrap (by omega) (by omega)) (trivial)))
          intro v125 W54 S55
          refine g_is [(2, Vp br), (3, Vp bg), (4, Vp bf), (5, Vp bq), (9, Vi ((nPages l : Nat) : Int)), (77, Vi ((nPages l : Nat) : Int)), (78, Vi ((kp : Int) + 1))] [.row (.slice (sA v125) (sN v125) (sC v125)) 38 8 ((pgRows (pgT l T.1 (nPages l) T.2 kp).1 us ws) ++ [[.string (pgName kp), .slice An ((pgNames T.1 (nPages l) kp).length) cn, Vi (((genE l T.1 1 2 (atNext l (pgT l T.1 (nPages l) T.2 kp).2)).1).op), Vi (((genE l T.1 1 2 (atNext l (pgT l T.1 (nPages l) T.2 kp).2)).1).k), Vi (((genE l T.1 1 2 (atNext l (pgT l T.1 (nPages l) T.2 kp).2)).1).n), .string (((genE l T.1 1 2 (atNext l (pgT l T.1 (nPages l) T.2 kp).2)).1).s), .string (((genE l T.1 1 2 (atNext l (pgT l T.1 (nPages l) T.2 kp).2)).1).nm), .slice (sA u) (sN u) (sC u)]]), .row (Vs bF (nFields l) cf) 52 9 (fdRows T.1 vs), .box bq [Vi ((rawAt l 0).k), Vi ((rawAt l 0).a), Vi ((rawAt l 0).b), .string ((rawAt l 0).t)], .box bf [Vs bF (nFields l) cf, .slice (sA v125) (sN v125) (sC v125)], .box bg [.slice A l.length cap, Vi (((genE l T.1 1 2 (atNext l (pgT l T.1 (nPages l) T.2 kp).2)).2 : Nat) : Int)], .box br [Vz, Vz]] [((blkOf u22), 0 + 0 * 1, [.string (fname 0)])] ?_
          exact g_round (kp + 1) (fun X q => ⟨W54, .slice (sA v125) (sN v125) (sC v125), us ++ [.slice An (pgNames T.1 (nPages l) kp).length cn], ws ++ [.slice (sA u) (sN u) (sC u)], q _ _ _ _ (says_ents (by rw [e1, pgRows_snoc hul' hwl', e2]; try rfl)), (S33.trans (S35.trans (S38.trans (S40.trans (S48.trans (S50.trans (S53.trans S55))))))), by omega, by rw [e1, List.map_append]; exact AllStr.snoc (fnm.sees (S50.trans (S53.trans S55))) (hus.sees (S35.trans (S38.trans (S40.trans (S48.trans (S50.trans (S53.trans S55))))))), by rw [e1, List.map_append]; exact AllArgs.snoc (hu.sees (S53.trans S55)) (hws.sees (S35.trans (S38.trans (S40.trans (S48.trans (S50.trans (S53.trans S55))))))), slu_snoc hul rfl, slu_snoc hwl rfl⟩) (by omega)
        · skip
          obtain ⟨e1, e2⟩ := pgT_step l T.1 (nPages l) T.2 kp (show skipE l T.1 (rawAt l (pgT l T.1 (nPages l) T.2 kp).2) (atNext l (pgT l T.1 (nPages l) T.2 kp).2) = _ by unfold skipE; rw [if_neg q0])
          refine g_false (t := (pickL (rawAt l (pgT l T.1 (nPages l) T.2 kp).2).k 2) == 0) (beq_eq_false_iff_ne.2 q0) ?_
          refine gov1 7 [.b 5 1, .b 0 0, .fix] [] ?_
          intro b56 W57 S58
          refine goa0 10 [.ap 2 0 (pgRows (pgT l T.1 (nPages l) T.2 kp).1 us ws) [[.string (pgName kp), .slice An ((pgNames T.1 (nPages l) kp).length) cn, Vi 0, Vi 0, Vi 0, Ve, Ve, Vz]], .b 5 1] [(127, Vi (IntKind.i64.wrap ((kp : Int) + 1)), Vi ((kp : Int) + 1))] ?_ (ho := (And.intro (by rw [prl]; simp; omega) (trivial))) (hc := (And.intro (i64_wrap (by omega) (by omega)) (trivial)))
          intro v125 W59 S60
          refine g_is [(2, Vp br), (3, Vp bg), (4, Vp bf), (5, Vp bq), (9, Vi ((nPages l : Nat) : Int)), (77, Vi ((nPages l : Nat) : Int)), (78, Vi ((kp : Int) + 1))] [.row (.slice (sA v125) (sN v125) (sC v125)) 38 8 ((pgRows (pgT l T.1 (nPages l) T.2 kp).1 us ws) ++ [[.string (pgName kp), .slice An ((pgNames T.1 (nPages l) kp).length) cn, Vi 0, Vi 0, Vi 0, Ve, Ve, Vz]]), .row (Vs bF (nFields l) cf) 52 9 (fdRows T.1 vs), .box bq [Vi ((rawAt l 0).k), Vi ((rawAt l 0).a), Vi ((rawAt l 0).b), .string ((rawAt l 0).t)], .box bf [Vs bF (nFields l) cf, .slice (sA v125) (sN v125) (sC v125)], .box bg [.slice A l.length cap, Vi ((atNext l (pgT l T.1 (nPages l) T.2 kp).2 : Nat) : Int)], .box br [Vz, Vz]] [((blkOf u22), 0 + 0 * 1, [.string (fname 0)])] ?_
          exact g_round (kp + 1) (fun X q => ⟨W59, .slice (sA v125) (sN v125) (sC v125), us ++ [.slice An (pgNames T.1 (nPages l) kp).length cn], ws ++ [Vz], q _ _ _ _ (says_ents (by rw [e1, pgRows_snoc hul' hwl', e2]; try rfl)), (S33.trans (S35.trans (S38.trans (S40.trans (S48.trans (S58.trans S60)))))), by omega, by rw [e1, List.map_append]; exact AllStr.snoc (fnm.sees (S58.trans S60)) (hus.sees (S35.trans (S38.trans (S40.trans (S48.trans (S58.trans S60)))))), by rw [e1, List.map_append]; exact AllArgs.snoc (args_nil _ _ rfl) (hws.sees (S35.trans (S38.trans (S40.trans (S48.trans (S58.trans S60)))))), slu_snoc hul rfl, slu_snoc hwl rfl⟩) (by omega)
    · skip
      subst hpe
      have prl : (pgRows (pgT l T.1 (nPages l) T.2 (nPages l)).1 us ws).length = nPages l := by rw [pgRows_len (by rw [hus.len, List.length_map]) (by rw [hws.len, List.length_map]), pgT_len]
      refine g_form 0 (v := pv) (e := 38) (kk := 8) (l := pgRows (pgT l T.1 (nPages l) T.2 (nPages l)).1 us ws) ?_; intro Ap cp hE_pv hc_pv hm_pv
      rw [show (pgRows (pgT l T.1 (nPages l) T.2 (nPages l)).1 us ws).length = (nPages l) from by first | omega | (simp; done) | (simp; omega)] at hE_pv hc_pv
      rw [hE_pv]
      refine g_false (t := decide (((nPages l : Nat) : Int) < ((nPages l : Nat) : Int))) (decide_eq_false (by omega)) ?_
      refine go0 2 [] [] ?_
      refine g_leave ?_
      refine go0 11 [.b 2 0, .cl 9 #[Vi ((rawAt l 0).k), Vi 2] (Vi (pickL (rawAt l 0).k 2))] [] ?_ (ho := (And.intro (fun H sH => c_picked _ 2 _ k0 k1 (by omega) (by omega)) (trivial)))
      by_cases q0 : pickL (rawAt l 0).k 2 = 0
      · refine g_true (t := (pickL (rawAt l 0).k 2) == 0) (beq_iff_eq.2 q0) ?_
        refine go0 3 [.b 3 0] [] ?_
        refine g_callset 1 (g := bF) (m := (nFields l)) (cap := cf) (kk := 9) (e := 52) (l := fdRows T.1 vs) (l' := (fdRows T.1 vs).reverse) (rev_set _ _ _ _ _ (fdRows_one T.1 vs hvl) (by omega)) ?_
        refine go0 9 [.b 3 0, .b 5 0] [] ?_
        have rF := fdRows_rev _ _ hvs.len

        refine g_is [(2, Vp br)] [.row (.slice Ap (nPages l) cp) 38 8 (pgRows (pgT l T.1 (nPages l) T.2 (nPages l)).1 us ws), .row (Vs bF (nFields l) cf) 52 9 ((fdRows T.1 vs).reverse), .box bq [Vi ((rawAt l 0).k), Vi ((rawAt l 0).a), Vi ((rawAt l 0).b), .string ((rawAt l 0).t)], .box bf [Vs bF (nFields l) cf, .slice Ap (nPages l) cp], .box bg [.slice A l.length cap, Vi (((pgT l T.1 (nPages l) T.2 (nPages l)).2 : Nat) : Int)], .box br [Vs bF (nFields l) cf, .slice Ap (nPages l) cp]] [((blkOf u22), 0 + 0 * 1, [.string (fname 0)])] ?_
        refine hQ.toJ [.agg #[Vs bF (nFields l) cf, .slice Ap (nPages l) cp]] [] (fun a w hJ => ?_) (ix := [5])
        have oF := hJ.rowOwn (v := Vs bF (nFields l) cf) (e := 52) (kk := 9) (l := (fdRows T.1 vs).reverse) 1 (by kernel_rfl)
        have oP := own_apart hJ.j 0 1 rfl rfl rfl rfl
        rw [rF] at oF
        exact ⟨_, _, oF, .slice Ap (nPages l) cp, vs.reverse, rfl, by rw [hfm, if_pos q0], by rw [hfm, if_pos q0]; exact AllSrc.rev (hvs.sees (S33.trans (own_sees hJ.j 1 rfl))), by rw [hfm]; exact ⟨us, ws, oP, (hus.sees (own_sees hJ.j 1 rfl)), (hws.sees (own_sees hJ.j 1 rfl))⟩⟩
      · skip
        refine g_false (t := (pickL (rawAt l 0).k 2) == 0) (beq_eq_false_iff_ne.2 q0) ?_
        refine go0 9 [.b 3 0, .b 5 0] [] ?_

        refine g_is [(2, Vp br)] [.row (.slice Ap (nPages l) cp) 38 8 (pgRows (pgT l T.1 (nPages l) T.2 (nPages l)).1 us ws), .row (Vs bF (nFields l) cf) 52 9 (fdRows T.1 vs), .box bq [Vi ((rawAt l 0).k), Vi ((rawAt l 0).a), Vi ((rawAt l 0).b), .string ((rawAt l 0).t)], .box bf [Vs bF (nFields l) cf, .slice Ap (nPages l) cp], .box bg [.slice A l.length cap, Vi (((pgT l T.1 (nPages l) T.2 (nPages l)).2 : Nat) : Int)], .box br [Vs bF (nFields l) cf, .slice Ap (nPages l) cp]] [((blkOf u22), 0 + 0 * 1, [.string (fname 0)])] ?_
        refine hQ.toJ [.agg #[Vs bF (nFields l) cf, .slice Ap (nPages l) cp]] [] (fun a w hJ => ?_) (ix := [5])
        have oF := hJ.rowOwn (v := Vs bF (nFields l) cf) (e := 52) (kk := 9) (l := fdRows T.1 vs) 1 (by kernel_rfl)
        have oP := own_apart hJ.j 0 1 rfl rfl rfl rfl
        exact ⟨_, _, oF, .slice Ap (nPages l) cp, vs, rfl, by rw [hfm, if_neg q0], by rw [hfm, if_neg q0]; exact (hvs.sees (S33.trans (own_sees hJ.j 1 rfl))), by rw [hfm]; exact ⟨us, ws, oP, (hus.sees (own_sees hJ.j 1 rfl)), (hws.sees (own_sees hJ.j 1 rfl))⟩⟩
theorem form_any (l : List RawD) (sl : Value) (h : Vw) (hr : RS h 4 sl (l.map RawD.cs)) (hlen : l.length * 40 ≤ reachBytes) (hok : ∀ r ∈ l, r.ok) :
    C0 Try.prog 4 #[sl] h (fun v h' => ∃ u1 u2, v = .agg #[.slice (sA u1) (sN u1) (sC u1), .slice (sA u2) (sN u2) (sC u2)] ∧ IsForm h' (.slice (sA u1) (sN u1) (sC u1)) (.slice (sA u2) (sN u2) (sC u2)) (formE l)) := by
  intro q1 q2 q3 q4
  refine (form_o l sl h hr hlen hok q1 q2 q3 q4).mono ?_
  rintro e w' ⟨v, Bo, rfl, hl, hB, hm, u, fl, ho, u2, vs, rfl, rfl, h2, h3⟩
  have s : Sees ⟨w', u.ownBlock.toList ++ h.bad⟩ ⟨w', h.bad⟩ := ⟨Nat.le_refl _, fun _ _ _ => rfl, fun b hb _ => List.mem_append_right _ hb⟩
  have r1 : RS ⟨w', h.bad⟩ 9 u (fdRows (formE l).fields vs) := row_rs ho fun b hb hbad => by have := (ho.1.lt b hb).1; have := q4 b hbad; omega
  have k3 := h3.sees s
  have k2 := h2.sees s
  obtain ⟨A, c, rfl, -⟩ := r1.form
  obtain ⟨us, ws, r2, -⟩ := id k3
  obtain ⟨A', c', rfl, -⟩ := r2.form
  exact ⟨_, Bo, rfl, hl, hB, hm, .slice A _ c, .slice A' _ c', rfl, ⟨vs, r1, k2⟩, k3⟩

end Go.Proofs.Ythgcgciceejicaa

namespace Go.Proofs.Ythgcgciceejicaa
open Go.RowKit
set_option linter.unusedVariables false

theorem fname_inj {i j : Nat} (hi : i < 10) (hj : j < 10) (h : fname i = fname j) : i = j := by
  have key : ∀ i, i < 10 → ∀ j, j < 10 → (fname i).data = (fname j).data → i = j := by decide
  exact key i hi j hj (congrArg ByteArray.data h)
theorem fldT_names (l : List RawD) : ∀ k, (fldT l k).1.map (fun f : Fd => f.name) = (List.range k).map fname
  | 0 => rfl
  | k + 1 => by
    show ((fldT l k).1 ++ [_]).map (fun f : Fd => f.name) = _
    rw [List.map_append, fldT_names l k, List.range_succ, List.map_append]; rfl
theorem form_mem {l : List RawD} {f : Fd} : f ∈ (formE l).fields ↔ f ∈ (fldT l (nFields l)).1 := by
  show f ∈ formF l ↔ _
  unfold formF
  split
  · rw [List.mem_reverse]
  · exact Iff.rfl
theorem form_nodup (l : List RawD) : ((formE l).fields.map (·.name)).Nodup := by
  have hn := (nFields_le l).2.1
  have h : ((fldT l (nFields l)).1.map (·.name)).Nodup := by
    rw [fldT_names]
    refine List.pairwise_map.2 (List.nodup_range.imp_of_mem ?_)
    intro a b ha hb hab e
    exact hab (fname_inj (by have := List.mem_range.1 ha; omega) (by have := List.mem_range.1 hb; omega) e)
  show ((formF l).map (·.name)).Nodup
  unfold formF
  split
  · rw [List.map_reverse]; exact (List.reverse_perm _).nodup_iff.2 h
  · exact h
theorem form_len (l : List RawD) : (formE l).fields.length = nFields l := by
  show (formF l).length = _
  unfold formF
  split
  · rw [List.length_reverse, fldT_len]
  · exact fldT_len l _
theorem form_pages (l : List RawD) : (formE l).pages.length = nPages l := pgT_len _ _ _ _ _
theorem fldT_each (l : List RawD) : ∀ k, ∀ f ∈ (fldT l k).1, ∃ i, i < k ∧ f.name = fname i ∧ (1 ≤ f.kind ∧ f.kind ≤ 3) ∧ (1 ≤ f.ty ∧ f.ty ≤ 3) ∧ (f.kind = 1 → f.src = zE)
  | 0, f, hf => by cases hf
  | k + 1, f, hf => by
    have hf : f ∈ (fldT l k).1 ++ [_] := hf
    rcases List.mem_append.1 hf with hf | hf
    · obtain ⟨i, h1, h2⟩ := fldT_each l k f hf
      exact ⟨i, by omega, h2⟩
    · obtain rfl := List.mem_singleton.1 hf
      have p1 := pick_range (rawAt l (fldT l k).2).k 3 (by omega)
      have p2 := pick_range (rawAt l (fldT l k).2).b 3 (by omega)
      refine ⟨k, by omega, rfl, ⟨by simp only; omega, by simp only; omega⟩, ⟨by simp only; omega, by simp only; omega⟩, fun h => ?_⟩
      have h : 1 + pickL (rawAt l (fldT l k).2).k 3 = 1 := h
      show (srcE l (fldT l k).1 (rawAt l (fldT l k).2) (atNext l (fldT l k).2)).1 = zE
      unfold srcE
      rw [if_neg (by omega), if_neg (by omega)]
theorem form_each {l : List RawD} {f : Fd} (hf : f ∈ (formE l).fields) : ∃ i, i < 10 ∧ f.name = fname i ∧ (1 ≤ f.kind ∧ f.kind ≤ 3) ∧ (1 ≤ f.ty ∧ f.ty ≤ 3) ∧ (f.kind = 1 → f.src = zE) := by
  obtain ⟨i, h1, h2⟩ := fldT_each l _ f (form_mem.1 hf)
  exact ⟨i, by have := (nFields_le l).2.1; omega, h2⟩

/-- The form, its slices written out. -/
theorem form_c (l : List RawD) (sl : Value) (h : Vw) (hr : RS h 4 sl (l.map RawD.cs)) (hlen : l.length * 40 ≤ reachBytes) (hok : ∀ r ∈ l, r.ok) :
    C0 Try.prog 4 #[sl] h (fun v h' => ∃ A c B d, v = .agg #[.slice A (formE l).fields.length c, .slice B (formE l).pages.length d] ∧ IsForm h' (.slice A (formE l).fields.length c) (.slice B (formE l).pages.length d) (formE l)) := by
  refine (form_any l sl h hr hlen hok).mono fun v h' _ => ?_
  rintro ⟨u1, u2, rfl, hf⟩
  obtain ⟨vs, hrs, hsrc⟩ := hf.fields
  obtain ⟨us, ws, hps, hst, hag⟩ := hf.pages
  obtain ⟨A, c, e1, -⟩ := hrs.form
  obtain ⟨B, d, e2, -⟩ := hps.form
  rw [fdRows_len hsrc.len] at e1
  rw [pgRows_len (by rw [hst.len, List.length_map]) (by rw [hag.len, List.length_map])] at e2
  rw [e1, e2] at hf ⊢
  exact ⟨A, c, B, d, rfl, hf⟩
/-- Two values in one. -/
def fstV : Value → Value
  | .tuple a => a.getD 0 undef
  | _ => undef
def sndV : Value → Value
  | .tuple a => a.getD 1 undef
  | _ => undef
/-- The form, as a call in a drawn region tells it. -/
theorem form_u (l : List RawD) (sl : Value) (h : Vw) (hr : RS h 4 sl (l.map RawD.cs)) (hlen : l.length * 40 ≤ reachBytes) (hok : ∀ r ∈ l, r.ok) :
    C0 Try.prog 4 #[sl] h (fun v h' => ∃ u, v = .agg #[.slice (sA (fstV u)) (sN (fstV u)) (sC (fstV u)), .slice (sA (sndV u)) (sN (sndV u)) (sC (sndV u))] ∧ IsForm h' (.slice (sA (fstV u)) (sN (fstV u)) (sC (fstV u))) (.slice (sA (sndV u)) (sN (sndV u)) (sC (sndV u))) (formE l)) := by
  refine (form_any l sl h hr hlen hok).mono fun v h' _ => ?_
  rintro ⟨u1, u2, rfl, hf⟩
  exact ⟨.tuple #[u1, u2], rfl, hf⟩

end Go.Proofs.Ythgcgciceejicaa

namespace Go.Proofs.Ythgcgciceejicaa
open Go.RowKit
set_option linter.unusedVariables false

theorem fname_ok {k : Nat} (h : k < 10) : NameOk (fname k).data.toList := by
  match k, h with
  | 0, _ => exact ⟨by decide, by decide, ⟨_, rfl, by decide⟩, by decide, by decide⟩
  | 1, _ => exact ⟨by decide, by decide, ⟨_, rfl, by decide⟩, by decide, by decide⟩
  | 2, _ => exact ⟨by decide, by decide, ⟨_, rfl, by decide⟩, by decide, by decide⟩
  | 3, _ => exact ⟨by decide, by decide, ⟨_, rfl, by decide⟩, by decide, by decide⟩
  | 4, _ => exact ⟨by decide, by decide, ⟨_, rfl, by decide⟩, by decide, by decide⟩
  | 5, _ => exact ⟨by decide, by decide, ⟨_, rfl, by decide⟩, by decide, by decide⟩
  | 6, _ => exact ⟨by decide, by decide, ⟨_, rfl, by decide⟩, by decide, by decide⟩
  | 7, _ => exact ⟨by decide, by decide, ⟨_, rfl, by decide⟩, by decide, by decide⟩
  | 8, _ => exact ⟨by decide, by decide, ⟨_, rfl, by decide⟩, by decide, by decide⟩
  | 9, _ => exact ⟨by decide, by decide, ⟨_, rfl, by decide⟩, by decide, by decide⟩
theorem tyF_mem : ∀ {fs : List Fd}, (fs.map (fun f : Fd => f.name)).Nodup → ∀ f ∈ fs, tyF fs f.name = some f.ty
  | [], _, f, hf => by cases hf
  | g :: fs, hd, f, hf => by
    have hd' := List.nodup_cons.1 hd
    unfold tyF
    rcases List.mem_cons.1 hf with rfl | hf
    · rw [if_pos ((Go.MapKept.bytes_beq _ _).2 rfl)]
    · rw [if_neg (fun q => ?_)]
      · exact tyF_mem hd'.2 f hf
      · have e := (Go.MapKept.bytes_beq _ _).1 q
        exact hd'.1 (List.mem_map.2 ⟨f, hf, e⟩)
/-- A field of the form, as it was made. -/
theorem fldT_made (l : List RawD) : ∀ k, ∀ f ∈ (fldT l k).1, ∃ i, i < k ∧ f = ⟨fname i, 1 + pickL (rawAt l (fldT l i).2).k 3, 1 + pickL (rawAt l (fldT l i).2).b 3, (srcE l (fldT l i).1 (rawAt l (fldT l i).2) (atNext l (fldT l i).2)).1⟩
  | 0, f, hf => by cases hf
  | k + 1, f, hf => by
    have hf : f ∈ (fldT l k).1 ++ [_] := hf
    rcases List.mem_append.1 hf with hf | hf
    · obtain ⟨i, h1, h2⟩ := fldT_made l k f hf
      exact ⟨i, by omega, h2⟩
    · exact ⟨k, by omega, List.mem_singleton.1 hf⟩
theorem fldT_sub (l : List RawD) {i k : Nat} (h : i ≤ k) : ∀ f ∈ (fldT l i).1, f ∈ (fldT l k).1 := by
  induction k with
  | zero => intro f hf; rw [show i = 0 by omega] at hf; cases hf
  | succ k ih =>
    intro f hf
    by_cases e : i = k + 1
    · rw [e] at hf; exact hf
    · show f ∈ (fldT l k).1 ++ [_]
      exact List.mem_append_left _ (ih (by omega) f hf)
theorem fldT_names_ok (l : List RawD) {k : Nat} (hk : k ≤ 10) : ∀ f ∈ (fldT l k).1, NameOk f.name.data.toList := fun f hf => by
  obtain ⟨i, h1, rfl⟩ := fldT_made l k f hf
  exact fname_ok (by omega)
/-- The formula of a field: it may be, is small, is of its type, and asks for fields ahead of it alone. -/
theorem src_ok (l : List RawD) (i : Nat) (hi : i < 10) {g : ByteArray → Option Int} (hg : ∀ f ∈ (fldT l i).1, g f.name = some f.ty) (h : pickL (rawAt l (fldT l i).2).k 3 ≠ 0) :
    ∃ t, 1 ≤ t ∧ t ≤ 3 ∧ (pickL (rawAt l (fldT l i).2).k 3 = 1 → t = 1 + pickL (rawAt l (fldT l i).2).b 3) ∧ tyE g (srcE l (fldT l i).1 (rawAt l (fldT l i).2) (atNext l (fldT l i).2)).1 = (t, 0) ∧
      WfE (srcE l (fldT l i).1 (rawAt l (fldT l i).2) (atNext l (fldT l i).2)).1 ∧ (szE (srcE l (fldT l i).1 (rawAt l (fldT l i).2) (atNext l (fldT l i).2)).1).1 ≤ 13 ∧ (szE (srcE l (fldT l i).1 (rawAt l (fldT l i).2) (atNext l (fldT l i).2)).1).2 ≤ 3 := by
  have hn := fldT_names_ok l (k := i) (by omega)
  have pk := pick_range (rawAt l (fldT l i).2).k 3 (by omega)
  have pb := pick_range (rawAt l (fldT l i).2).b 3 (by omega)
  have pa := pick_range (rawAt l (fldT l i).2).a 3 (by omega)
  unfold srcE
  by_cases h1 : pickL (rawAt l (fldT l i).2).k 3 = 1
  · rw [if_pos h1]
    obtain ⟨a, b, c⟩ := genE_ok l (fldT l i).1 hn 2 (1 + pickL (rawAt l (fldT l i).2).b 3) (atNext l (fldT l i).2) (by omega) (by omega)
    exact ⟨1 + pickL (rawAt l (fldT l i).2).b 3, by omega, by omega, fun _ => rfl, ty_gen hg l 2 _ _ (by omega) (by omega), a, b, c⟩
  · rw [if_neg h1, if_pos (by omega)]
    obtain ⟨a, b, c⟩ := genE_ok l (fldT l i).1 hn 1 (1 + pickL (rawAt l (fldT l i).2).a 3) (atNext l (fldT l i).2) (by omega) (by omega)
    have e1 : cntE 1 = 4 := rfl
    exact ⟨1 + pickL (rawAt l (fldT l i).2).a 3, by omega, by omega, fun q => absurd q h1, ty_gen hg l 1 _ _ (by omega) (by omega), a, by omega, by omega⟩
theorem form_okF (l : List RawD) (fs : List Fd) (hd : (fs.map (fun f : Fd => f.name)).Nodup) (hs : ∀ f ∈ (fldT l (nFields l)).1, f ∈ fs) : ∀ f ∈ (fldT l (nFields l)).1, OkF fs f := fun f hf => by
  have hn := (nFields_le l).2.1
  obtain ⟨i, hi, rfl⟩ := fldT_made l _ f hf
  have pk := pick_range (rawAt l (fldT l i).2).k 3 (by omega)
  have pb := pick_range (rawAt l (fldT l i).2).b 3 (by omega)
  have hg : ∀ f ∈ (fldT l i).1, tyF fs f.name = some f.ty := fun f hf => tyF_mem hd f (hs f (fldT_sub l (by omega) f hf))
  have hso := fun h => src_ok l i (by omega) hg h
  refine ⟨fname_ok (by omega), by simp only; omega, by simp only; omega, by simp only; omega, by simp only; omega, fun h => ?_, fun h => ?_, fun h => ?_, fun h => ?_⟩
  · simp only at h ⊢
    unfold srcE
    rw [if_neg (by omega), if_neg (by omega)]
  · simp only at h ⊢
    obtain ⟨t, -, -, -, -, a, b, c⟩ := hso (by omega)
    exact ⟨a, by omega, by unfold chkE; rw [if_neg (by omega), if_neg (by omega)]⟩
  · simp only at h ⊢
    obtain ⟨t, -, -, e, q, -⟩ := hso (by omega)
    rw [q, e (by omega)]
  · simp only at h ⊢
    obtain ⟨t, a, b, -, q, -⟩ := hso (by omega)
    exact ⟨t, a, b, q⟩
theorem form_okFs (l : List RawD) (fs : List Fd) (hd : (fs.map (fun f : Fd => f.name)).Nodup) (hm : ∀ f, f ∈ fs ↔ f ∈ (formE l).fields) (hl : fs.length ≤ 14) : OkFs fs :=
  ⟨fun f hf => form_okF l fs hd (fun g hg => (hm g).2 (form_mem.2 hg)) f (form_mem.1 ((hm f).1 hf)), hd, hl⟩

end Go.Proofs.Ythgcgciceejicaa

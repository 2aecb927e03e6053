/-
  Contracts of the laws' own facts, truth, with, two; formulas that the laws build of others.
-/
import Derived.Test.YtgjndkphfabnnaaEvF
import Derived.Test.YtgjndkphfabnnaaLawX
import Derived.Test.YtgjndkphfabnnaaRow
import Derived.Test.YtgjndkphfabnnaaEqB
namespace Go.Proofs.Ytgjndkphfabnnaa
open Go.RowKit


/-- The laws' own facts: one for each of the five fields. -/
def lawF (l : List RawD) : Nat → Env × Nat
  | 0 => ([], 0)
  | k + 1 => ((lawF l k).1 ++ [((some5.getD k ⟨⟨#[]⟩, 0, 0, zE⟩).name, valR (some5.getD k ⟨⟨#[]⟩, 0, 0, zE⟩).ty (rawAt l (lawF l k).2))], atNext l (lawF l k).2)
def lawEnv (l : List RawD) : Env := (lawF l 5).1
theorem lawF_len (l : List RawD) : ∀ k, (lawF l k).1.length = k
  | 0 => rfl
  | k + 1 => by show ((lawF l k).1 ++ [_]).length = _; rw [List.length_append, lawF_len l k]; rfl
theorem lawF_le (l : List RawD) : ∀ k, (lawF l k).2 ≤ k
  | 0 => Nat.le_refl _
  | k + 1 => by
    have h1 := lawF_le l k
    have h2 := atNext_le l (lawF l k).2
    show atNext l (lawF l k).2 ≤ k + 1
    omega
theorem some5_ty {k : Nat} {f : Fd} (h : some5[k]? = some f) : 1 ≤ f.ty ∧ f.ty ≤ 3 := by
  have := List.mem_of_getElem? h
  simp [some5] at this
  rcases this with rfl | rfl | rfl | rfl | rfl <;> simp
theorem lawF_known (l : List RawD) : ∀ k, k ≤ 5 → ∀ p ∈ (lawF l k).1, p.2.known
  | 0, _, p, hp => by cases hp
  | k + 1, hk, p, hp => by
    have hp : p ∈ (lawF l k).1 ++ [_] := hp
    rcases List.mem_append.1 hp with hp | hp
    · exact lawF_known l k (by omega) p hp
    · rw [List.mem_singleton.1 hp]
      have : some5[k]? = some (some5.getD k ⟨⟨#[]⟩, 0, 0, zE⟩) := by
        rw [List.getD_eq_getElem?_getD, List.getElem?_eq_getElem (show k < some5.length by show k < 5; omega)]; rfl
      obtain ⟨h1, h3⟩ := some5_ty this
      exact valR_known _ _ h1 h3
theorem lawEnv_known (l : List RawD) : ∀ p ∈ lawEnv l, p.2.known := lawF_known l 5 (Nat.le_refl _)

set_option maxRecDepth 100000 in
theorem lawFacts_row (l : List RawD) (sl : Value) (h : Vw) (hr : RS h 4 sl (l.map RawD.cs)) (hlen : l.length * 40 ≤ reachBytes) (hok : ∀ r ∈ l, r.ok) :
    C0 Try.prog 37 #[sl] h (fun v h' => ∃ b c, v = .slice (some ⟨b, 0, none⟩) 5 c ∧ Ent.ok h.w.heap.size h'.w (.row (.slice (some ⟨b, 0, none⟩) 5 c) 68 7 (fcRows (lawEnv l))) ∧ RS h' 7 (.slice (some ⟨b, 0, none⟩) 5 c) (fcRows (lawEnv l))) := by
  obtain ⟨A0, cap, rfl, -, -, -⟩ := hr.form
  rw [List.length_map] at *
  have hnx := fun H n hn q g => gen_next_any g l (.slice A0 l.length cap) n H q hn hlen
  generalize hL : l.length = len at *
  refine x_con Try.func37 (c := Try.f37.body.getD .skip) (by kernel_rfl) (N := 29) rfl (by kernel_rfl) ?_
  intro hbx hbad Q hQ a w hJ
  replace hJ : K ⟨29, h.w, h.bad, []⟩ [(0, .slice A0 len cap)] [] [] h a w := hJ.to (by kernel_rfl) (by kernel_rfl) rfl
  replace hJ := hJ.nilrow 68 7
  refine rx hJ false 21 [.own] [] (.new fun b1 => .ok (.ops [0, 0, 1, 1, 1] 0) [.seq [1, 0, 1, 1, 1], .seq [1, 1, 1, 1]] [(2, .slice none 0 0), (3, .pointer (some ⟨b1, 0, none⟩)), (4, .slice none 0 0)] [.box b1 [.slice A0 len cap, .int .i64 0], .row (.slice none 0 0) 68 7 ([])] []) trivial trivial (fun b1 _ => by kernel_rfl) ?_
  clear hJ a w; intro b1 a w hJ
  refine x_call hJ 10 (some_any _) (fun _ => by kernel_rfl) ?_; clear hJ a w; rintro _ h2 a w s3 ⟨⟨fvs, hfs, hsrc⟩, bs, rfl⟩ hJ
  refine rx hJ false 5 [] [] (.ok (.code [0, 1, 0, 1, 1, 1]) [.block 0, .seq [1, 1, 1, 1]] [(2, .slice none 0 0), (3, .pointer (some ⟨b1, 0, none⟩)), (4, .slice none 0 0), (10, .slice (some ⟨bs, 0, none⟩) 5 5), (11, .int .i64 5), (12, .int .i64 0)] [.box b1 [.slice A0 len cap, .int .i64 0], .row (.slice none 0 0) 68 7 ([])] []) trivial trivial (fun _ => by kernel_rfl) ?_
  clear hJ a w; intro a w hJ
  refine x_loop (fun (k : Nat) a w => ∃ (h4 : Vw) (v : Value), K ⟨29, h.w, h.bad, []⟩ [(2, .slice none 0 0), (3, .pointer (some ⟨b1, 0, none⟩)), (10, .slice (some ⟨bs, 0, none⟩) 5 5), (11, .int .i64 5), (12, .int .i64 (k : Int)), (4, v)] [.box b1 [.slice A0 len cap, .int .i64 (((lawF l k).2 : Nat) : Int)], .row v 68 7 (fcRows (lawF l k).1)] [] h4 a w ∧ Sees h2 h4 ∧ (k ≤ 5)) (fun k => 5 - k) (0) (by kernel_rfl) ⟨h2, (.slice none 0 0), hJ.to (by kernel_rfl) (by kernel_rfl) rfl, Sees.refl _, Nat.zero_le _⟩ ?_
  clear hJ a w; rintro k a w ⟨h4, v, hJ, s5, hk⟩
  refine rx hJ false 6 [] [] (.ok (.code [0, 1, 0, 0, 1, 0, 1, 1, 1]) [.seq [1, 1, 0, 0, 1, 0, 1, 1, 1]] [(2, .slice none 0 0), (3, .pointer (some ⟨b1, 0, none⟩)), (10, .slice (some ⟨bs, 0, none⟩) 5 5), (11, .int .i64 5), (12, .int .i64 (k : Int)), (4, v), (13, .bool (decide ((k : Int) < 5)))] [.box b1 [.slice A0 len cap, .int .i64 (((lawF l k).2 : Nat) : Int)], .row v 68 7 (fcRows (lawF l k).1)] []) trivial trivial (fun _ => by kernel_rfl) ?_
  clear hJ a w; intro a w hJ
  have hfl := hsrc.len
  rcases (by omega : k < 5 ∨ 5 = k) with hlt | hke
  · obtain ⟨f, hf⟩ : ∃ f, some5[k]? = some f := ⟨_, List.getElem?_eq_getElem hlt⟩
    obtain ⟨u, hu⟩ : ∃ u, fvs[k]? = some u := ⟨_, List.getElem?_eq_getElem (by rw [hfl]; exact hlt)⟩
    have hrow := fdRows_get hf hu
    obtain ⟨Au, nu, cu, rfl⟩ := (AllArgs.get hsrc (x := f.src) (by rw [List.getElem?_map, hf]; rfl) hu).slice
    obtain ⟨t1, t3⟩ := some5_ty hf
    have hgd : some5.getD k ⟨⟨#[]⟩, 0, 0, zE⟩ = f := by rw [List.getD_eq_getElem?_getD, hf]; rfl
    have hls : lawF l (k + 1) = ((lawF l k).1 ++ [(f.name, valR f.ty (rawAt l (lawF l k).2))], atNext l (lawF l k).2) := by
      show ((lawF l k).1 ++ [((some5.getD k _).name, valR (some5.getD k _).ty _)], _) = _
      rw [hgd]
    have hll := lawF_len l k
    have hle := lawF_le l k
    have hro := rawAt_ok hok (lawF l k).2
    have hcv := fun H => c_value f.ty (rawAt l (lawF l k).2) H t1 t3 hro
    generalize lawF l k = p at *
    refine x_true hJ (t := decide ((k : Int) < 5)) (by kernel_rfl) (decide_eq_true (by omega)) ?_
    refine rx hJ false 6 [] [] (.ok (.ops [0, 0, 0, 1, 1, 0, 0, 1, 0, 1, 1, 1] 0) [.seq [1, 0, 0, 1, 1, 0, 0, 1, 0, 1, 1, 1], .block 1, .seq [1, 1, 1, 0, 0, 1, 0, 1, 1, 1]] [(2, .slice none 0 0), (3, .pointer (some ⟨b1, 0, none⟩)), (10, .slice (some ⟨bs, 0, none⟩) 5 5), (11, .int .i64 5), (12, .int .i64 (k : Int)), (4, v), (13, .bool (decide ((k : Int) < 5)))] [.box b1 [.slice A0 len cap, .int .i64 (((p).2 : Nat) : Int)], .row v 68 7 (fcRows (p).1)] []) trivial trivial (fun _ => by kernel_rfl) ?_
    clear hJ a w; intro a w hJ
    have c6 := RS.cell hfs (hrow)
    replace hJ := hJ.fact (c6.sees s5)
    refine rx hJ false 6 [.ix bs 0 5 5 k, .f 0 0, .own, .b 0 0] [] (.new fun b7 => .ok (.code [1, 0, 0, 1, 1, 0, 0, 1, 0, 1, 1, 1]) [.block 1, .seq [1, 1, 1, 0, 0, 1, 0, 1, 1, 1]] [(2, .slice none 0 0), (3, .pointer (some ⟨b1, 0, none⟩)), (10, .slice (some ⟨bs, 0, none⟩) 5 5), (11, .int .i64 5), (12, .int .i64 (k : Int)), (4, v), (13, .bool (decide ((k : Int) < 5))), (14, .pointer (some ⟨bs, 0 + k * 9, none⟩)), (15, .agg #[.string f.name, .int .i64 f.kind, .int .i64 f.ty, .int .i64 f.src.op, .int .i64 f.src.k, .int .i64 f.src.n, .string f.src.s, .string f.src.nm, .slice Au nu cu]), (6, .pointer (some ⟨b7, 0, none⟩))] [.box b7 [.string f.name, .int .i64 f.kind, .int .i64 f.ty, .int .i64 f.src.op, .int .i64 f.src.k, .int .i64 f.src.n, .string f.src.s, .string f.src.nm, .slice Au nu cu], .box b1 [.slice A0 len cap, .int .i64 (((p).2 : Nat) : Int)], .row v 68 7 (fcRows (p).1)] [(bs, 0 + k * 9, [.string f.name, .int .i64 f.kind, .int .i64 f.ty, .int .i64 f.src.op, .int .i64 f.src.k, .int .i64 f.src.n, .string f.src.s, .string f.src.nm, .slice Au nu cu])]) (And.intro (by first | omega | (simp; omega)) (trivial)) trivial (fun b7 _ => by kernel_rfl) ?_
    clear hJ a w; intro b7 a w hJ
    let R : Reg := ⟨⟨29, h.w, h.bad, []⟩, [(0, 16, fun gh => v), (1, 17, fun gh => .pointer (some ⟨b7, 0, none⟩)), (2, 18, fun gh => .string f.name), (3, 19, fun gh => .pointer (some ⟨b7, 2, none⟩)), (4, 20, fun gh => .int .i64 f.ty), (5, 21, fun gh => .pointer (some ⟨b1, 0, none⟩)), (6, 22, fun gh => .agg #[.int .i64 ((rawAt l p.2).k), .int .i64 ((rawAt l p.2).a), .int .i64 ((rawAt l p.2).b), .string ((rawAt l p.2).t)]), (7, 23, fun gh => .agg #[.int .i64 f.ty, .int .i64 (valN f.ty (rawAt l p.2).k (rawAt l p.2).a), .string (valS f.ty (rawAt l p.2).t)]), (8, 24, fun gh => .agg #[.string f.name, .int .i64 0, .int .i64 0, .string ⟨#[]⟩, .int .i64 f.ty, .int .i64 (valN f.ty (rawAt l p.2).k (rawAt l p.2).a), .string (valS f.ty (rawAt l p.2).t)]), (9, 25, fun gh => .slice (some ⟨(blkOf (gh 9)), 0, none⟩) 1 1), (10, 26, fun gh => .slice (sA (gh 10)) (sN (gh 10)) (sC (gh 10))), (11, 4, fun gh => .slice (sA (gh 10)) (sN (gh 10)) (sC (gh 10)))], [(2, .slice none 0 0), (3, .pointer (some ⟨b1, 0, none⟩)), (10, .slice (some ⟨bs, 0, none⟩) 5 5), (11, .int .i64 5), (12, .int .i64 (k : Int)), (4, v), (13, .bool (decide ((k : Int) < 5))), (14, .pointer (some ⟨bs, 0 + k * 9, none⟩)), (15, .agg #[.string f.name, .int .i64 f.kind, .int .i64 f.ty, .int .i64 f.src.op, .int .i64 f.src.k, .int .i64 f.src.n, .string f.src.s, .string f.src.nm, .slice Au nu cu]), (6, .pointer (some ⟨b7, 0, none⟩))], [⟨some (.box b7 [.string f.name, .int .i64 f.kind, .int .i64 f.ty, .int .i64 f.src.op, .int .i64 f.src.k, .int .i64 f.src.n, .string f.src.s, .string f.src.nm, .slice Au nu cu]), []⟩, ⟨some (.box b1 [.slice A0 len cap, .int .i64 (((p).2 : Nat) : Int)]), [(6, fun gh => .box b1 [.slice A0 len cap, .int .i64 ((atNext l p.2 : Nat) : Int)])]⟩, ⟨some (.row v 68 7 (fcRows (p).1)), [(10, fun gh => .row (.slice (sA (gh 10)) (sN (gh 10)) (sC (gh 10))) 68 7 ((fcRows (p).1) ++ [[.string f.name, .int .i64 0, .int .i64 0, .string ⟨#[]⟩, .int .i64 f.ty, .int .i64 (valN f.ty (rawAt l p.2).k (rawAt l p.2).a), .string (valS f.ty (rawAt l p.2).t)]]))]⟩], [(9, fun gh hh => Cells hh (blkOf (gh 9)) 0 [.string f.name, .int .i64 0, .int .i64 0, .string ⟨#[]⟩, .int .i64 f.ty, .int .i64 (valN f.ty (rawAt l p.2).k (rawAt l p.2).a), .string (valS f.ty (rawAt l p.2).t)])], [[], [], [1], [], [3], [], [5], [3, 4, 5, 6], [1, 2, 3, 4, 5, 6, 7], [1, 2, 3, 4, 5, 6, 7, 8], [0, 1, 2, 3, 4, 5, 6, 7, 8, 9], [0, 1, 2, 3, 4, 5, 6, 7, 8, 9, 10]], h4⟩
    have hmono : ∀ zq ∈ R.F, ∀ zx zh zi, Sees zh zi → zq.2 zx zh → zq.2 zx zi := mono_cons (fun _ _ _ s c => c.sees s) (mono_nil)
    refine x_region (by kernel_rfl) R hJ 12 [.pu, .pu, .ld 0 0, .pu, .ld 0 2, .pu, .cl, .cl, .pu, .cl, .cl, .pu] (by kernel_rfl) hmono (fun _ _ _ => by kernel_rfl) (fun hT hA => ?_) ?_
    · clear hJ
      refine And.intro (r_call1 hT hA hmono ⟨fun _ _ => by kernel_rfl, fun _ _ => by kernel_rfl, fun _ _ => by kernel_rfl⟩ 22 (fun u => .agg #[.int .i64 (rawAt l p.2).k, .int .i64 (rawAt l p.2).a, .int .i64 (rawAt l p.2).b, .string (rawAt l p.2).t]) [5] 6 (by kernel_rfl) (fun _ => by kernel_rfl) 1 ⟨some (.box b1 [.slice A0 len cap, .int .i64 (((p).2 : Nat) : Int)]), [(6, fun gh => .box b1 [.slice A0 len cap, .int .i64 ((atNext l p.2 : Nat) : Int)])]⟩ (by kernel_rfl) (by kernel_rfl) (by kernel_rfl) b1 (fun gh => [.slice A0 len cap, .int .i64 (((p).2 : Nat) : Int)]) (fun gh => [.slice A0 len cap, .int .i64 ((atNext l p.2 : Nat) : Int)]) (fun _ => by kernel_rfl) (fun _ => by kernel_rfl) 55 (fun gh => #[.pointer (some ⟨b1, 0, none⟩)]) (fun _ _ => by kernel_rfl) (fun gh H sH fH lent => C1.known (R := R) (x := gh) (i := 6) (N' := fun gh => [.slice A0 len cap, .int .i64 ((atNext l p.2 : Nat) : Int)]) (hnx H p.2 (by omega) (hr.sees (s3.trans (s5.trans sH))) b1) (by kernel_rfl) (fun _ => by kernel_rfl))) ?_
      refine And.intro (r_callv hT hA hmono 23 (fun gh => .agg #[.int .i64 f.ty, .int .i64 (valN f.ty (rawAt l p.2).k (rawAt l p.2).a), .string (valS f.ty (rawAt l p.2).t)]) [4, 6] 7 (by kernel_rfl) (by kernel_rfl) (by kernel_rfl) (fun _ => by kernel_rfl) 71 (fun gh => #[.int .i64 f.ty, .agg #[.int .i64 ((rawAt l p.2).k), .int .i64 ((rawAt l p.2).a), .int .i64 ((rawAt l p.2).b), .string ((rawAt l p.2).t)]]) (fun _ _ => by kernel_rfl) (fun gh H sH fH lent => hcv _)) ?_
      refine And.intro (r_fact hT hA hmono ⟨fun _ _ => by kernel_rfl, fun _ _ => by kernel_rfl, fun _ _ => by kernel_rfl⟩ 25 (fun g => .slice (some ⟨g, 0, none⟩) 1 1) [8] 9 (by kernel_rfl) (by kernel_rfl) (fun _ => by kernel_rfl) (fun gh => [.string f.name, .int .i64 0, .int .i64 0, .string ⟨#[]⟩, .int .i64 f.ty, .int .i64 (valN f.ty (rawAt l p.2).k (rawAt l p.2).a), .string (valS f.ty (rawAt l p.2).t)]) 68 (fun _ _ => by kernel_rfl) (fun gh zb zH zc zj zq zhq zhe => own_fact (i := 9) (k := 0) (f := fun gh hh => Cells hh (blkOf (gh 9)) 0 [.string f.name, .int .i64 0, .int .i64 0, .string ⟨#[]⟩, .int .i64 f.ty, .int .i64 (valN f.ty (rawAt l p.2).k (rawAt l p.2).a), .string (valS f.ty (rawAt l p.2).t)]) (by kernel_rfl) (by kernel_rfl) zc zj zq zhq zhe)) ?_
      refine And.intro (r_append hT hA hmono ⟨fun _ _ => by kernel_rfl, fun _ _ => by kernel_rfl, fun _ _ => by kernel_rfl⟩ (by kernel_rfl) 26 [0, 7, 9] 10 (by kernel_rfl) (fun _ => by kernel_rfl) 2 ⟨some (.row v 68 7 (fcRows (p).1)), [(10, fun gh => .row (.slice (sA (gh 10)) (sN (gh 10)) (sC (gh 10))) 68 7 ((fcRows (p).1) ++ [[.string f.name, .int .i64 0, .int .i64 0, .string ⟨#[]⟩, .int .i64 f.ty, .int .i64 (valN f.ty (rawAt l p.2).k (rawAt l p.2).a), .string (valS f.ty (rawAt l p.2).t)]]))]⟩ (by kernel_rfl) (by kernel_rfl) (by kernel_rfl) (fun gh => v) 65 68 7 (fun gh => fcRows (p).1) (fun gh => [[.string f.name, .int .i64 0, .int .i64 0, .string ⟨#[]⟩, .int .i64 f.ty, .int .i64 (valN f.ty (rawAt l p.2).k (rawAt l p.2).a), .string (valS f.ty (rawAt l p.2).t)]]) (fun _ => by kernel_rfl) (fun _ => by kernel_rfl) (fun _ _ => by kernel_rfl) (.tmp 16) (.tmp 25) (by kernel_rfl) (by kernel_rfl) (fun gh => (blkOf (gh 9))) 1 1 (fun _ => by kernel_rfl) (fun _ => by kernel_rfl) 0 9 (fun gh hh => Cells hh (blkOf (gh 9)) 0 [.string f.name, .int .i64 0, .int .i64 0, .string ⟨#[]⟩, .int .i64 f.ty, .int .i64 (valN f.ty (rawAt l p.2).k (rawAt l p.2).a), .string (valS f.ty (rawAt l p.2).t)]) (by kernel_rfl) (by kernel_rfl) (fun _ _ c => c) Try.underlying65 (zv := .agg #[.string ⟨#[]⟩, .int .i64 0, .int .i64 0, .string ⟨#[]⟩, .int .i64 0, .int .i64 0, .string ⟨#[]⟩]) (bytes := 80) (by kernel_rfl) (by kernel_rfl) (fun _ => by kernel_rfl) (fun _ => by rw [List.length_map, hll]; simp; omega)) ?_
      trivial
    clear hJ a w; intro gh h10 a w sR hJ1 hF; have s11 : Sees h4 h10 := sR; clear sR
    have hJ : K ⟨29, h.w, h.bad, []⟩ [(2, .slice none 0 0), (3, .pointer (some ⟨b1, 0, none⟩)), (10, .slice (some ⟨bs, 0, none⟩) 5 5), (11, .int .i64 5), (12, .int .i64 (k : Int)), (4, .slice (sA (gh 10)) (sN (gh 10)) (sC (gh 10))), (13, .bool (decide ((k : Int) < 5))), (14, .pointer (some ⟨bs, 0 + k * 9, none⟩)), (15, .agg #[.string f.name, .int .i64 f.kind, .int .i64 f.ty, .int .i64 f.src.op, .int .i64 f.src.k, .int .i64 f.src.n, .string f.src.s, .string f.src.nm, .slice Au nu cu]), (6, .pointer (some ⟨b7, 0, none⟩)), (16, v), (17, .pointer (some ⟨b7, 0, none⟩)), (18, .string f.name), (19, .pointer (some ⟨b7, 2, none⟩)), (20, .int .i64 f.ty), (21, .pointer (some ⟨b1, 0, none⟩)), (22, .agg #[.int .i64 ((rawAt l p.2).k), .int .i64 ((rawAt l p.2).a), .int .i64 ((rawAt l p.2).b), .string ((rawAt l p.2).t)]), (23, .agg #[.int .i64 f.ty, .int .i64 (valN f.ty (rawAt l p.2).k (rawAt l p.2).a), .string (valS f.ty (rawAt l p.2).t)]), (24, .agg #[.string f.name, .int .i64 0, .int .i64 0, .string ⟨#[]⟩, .int .i64 f.ty, .int .i64 (valN f.ty (rawAt l p.2).k (rawAt l p.2).a), .string (valS f.ty (rawAt l p.2).t)]), (25, .slice (some ⟨(blkOf (gh 9)), 0, none⟩) 1 1), (26, .slice (sA (gh 10)) (sN (gh 10)) (sC (gh 10)))] [.box b7 [.string f.name, .int .i64 f.kind, .int .i64 f.ty, .int .i64 f.src.op, .int .i64 f.src.k, .int .i64 f.src.n, .string f.src.s, .string f.src.nm, .slice Au nu cu], .box b1 [.slice A0 len cap, .int .i64 ((atNext l p.2 : Nat) : Int)], .row (.slice (sA (gh 10)) (sN (gh 10)) (sC (gh 10))) 68 7 ((fcRows (p).1) ++ [[.string f.name, .int .i64 0, .int .i64 0, .string ⟨#[]⟩, .int .i64 f.ty, .int .i64 (valN f.ty (rawAt l p.2).k (rawAt l p.2).a), .string (valS f.ty (rawAt l p.2).t)]])] [(bs, 0 + k * 9, [.string f.name, .int .i64 f.kind, .int .i64 f.ty, .int .i64 f.src.op, .int .i64 f.src.k, .int .i64 f.src.n, .string f.src.s, .string f.src.nm, .slice Au nu cu])] h10 a w := hJ1.to (by kernel_rfl) (by kernel_rfl) rfl
    have f8 : Cells h10 (blkOf (gh 9)) 0 [.string f.name, .int .i64 0, .int .i64 0, .string ⟨#[]⟩, .int .i64 f.ty, .int .i64 (valN f.ty (rawAt l p.2).k (rawAt l p.2).a), .string (valS f.ty (rawAt l p.2).t)] := Reg.fact (i := 9) (f := fun gh hh => Cells hh (blkOf (gh 9)) 0 [.string f.name, .int .i64 0, .int .i64 0, .string ⟨#[]⟩, .int .i64 f.ty, .int .i64 (valN f.ty (rawAt l p.2).k (rawAt l p.2).a), .string (valS f.ty (rawAt l p.2).t)]) hF 0 (by kernel_rfl)
    replace hJ := hJ.fact f8
    clear hJ1 hF hmono R
    generalize blkOf (gh 9) = b9 at *
    generalize gh 10 = v26 at *
    clear gh
    refine rx hJ false 6 [] [(27, .int .i64 (IntKind.i64.wrap ((k : Int) + 1)), .int .i64 ((k : Int) + 1))] (.ok (.out .normal) [] [(2, .slice none 0 0), (3, .pointer (some ⟨b1, 0, none⟩)), (10, .slice (some ⟨bs, 0, none⟩) 5 5), (11, .int .i64 5), (4, .slice (sA v26) (sN v26) (sC v26)), (13, .bool (decide ((k : Int) < 5))), (14, .pointer (some ⟨bs, 0 + k * 9, none⟩)), (15, .agg #[.string f.name, .int .i64 f.kind, .int .i64 f.ty, .int .i64 f.src.op, .int .i64 f.src.k, .int .i64 f.src.n, .string f.src.s, .string f.src.nm, .slice Au nu cu]), (6, .pointer (some ⟨b7, 0, none⟩)), (16, v), (17, .pointer (some ⟨b7, 0, none⟩)), (18, .string f.name), (19, .pointer (some ⟨b7, 2, none⟩)), (20, .int .i64 f.ty), (21, .pointer (some ⟨b1, 0, none⟩)), (22, .agg #[.int .i64 ((rawAt l p.2).k), .int .i64 ((rawAt l p.2).a), .int .i64 ((rawAt l p.2).b), .string ((rawAt l p.2).t)]), (23, .agg #[.int .i64 f.ty, .int .i64 (valN f.ty (rawAt l p.2).k (rawAt l p.2).a), .string (valS f.ty (rawAt l p.2).t)]), (24, .agg #[.string f.name, .int .i64 0, .int .i64 0, .string ⟨#[]⟩, .int .i64 f.ty, .int .i64 (valN f.ty (rawAt l p.2).k (rawAt l p.2).a), .string (valS f.ty (rawAt l p.2).t)]), (25, .slice (some ⟨b9, 0, none⟩) 1 1), (26, .slice (sA v26) (sN v26) (sC v26)), (27, .int .i64 ((k : Int) + 1)), (12, .int .i64 ((k : Int) + 1))] [.box b7 [.string f.name, .int .i64 f.kind, .int .i64 f.ty, .int .i64 f.src.op, .int .i64 f.src.k, .int .i64 f.src.n, .string f.src.s, .string f.src.nm, .slice Au nu cu], .box b1 [.slice A0 len cap, .int .i64 ((atNext l p.2 : Nat) : Int)], .row (.slice (sA v26) (sN v26) (sC v26)) 68 7 ((fcRows (p).1) ++ [[.string f.name, .int .i64 0, .int .i64 0, .string ⟨#[]⟩, .int .i64 f.ty, .int .i64 (valN f.ty (rawAt l p.2).k (rawAt l p.2).a), .string (valS f.ty (rawAt l p.2).t)]])] [(b9, 0, [.string f.name, .int .i64 0, .int .i64 0, .string ⟨#[]⟩, .int .i64 f.ty, .int .i64 (valN f.ty (rawAt l p.2).k (rawAt l p.2).a), .string (valS f.ty (rawAt l p.2).t)]), (bs, 0 + k * 9, [.string f.name, .int .i64 f.kind, .int .i64 f.ty, .int .i64 f.src.op, .int .i64 f.src.k, .int .i64 f.src.n, .string f.src.s, .string f.src.nm, .slice Au nu cu])]) trivial (And.intro (i64_wrap (by omega) (by omega)) (trivial)) (fun _ => by kernel_rfl) ?_
    clear hJ a w; intro a w hJ
    replace hJ := hJ.drop 0
    exact x_round ⟨k + 1, ⟨h10, .slice (sA v26) (sN v26) (sC v26), (hJ.tof [] (F' := []) (by kernel_rfl)).to (by kernel_rfl) (by rw [hls, fcRows_snoc]; rfl) rfl, (s5.trans s11), by omega⟩, by omega⟩
  · skip
    have hll := lawF_len l k
    obtain ⟨A2, c2, hE_v, hc_v, hm_v⟩ := hJ.form (v := v) (e := 68) (k := 7) (l := fcRows (lawF l k).1) 1 (by kernel_rfl)
    rw [show (fcRows (lawF l k).1).length = k from by first | omega | (simp; done) | (simp; omega)] at hE_v hc_v
    rw [hE_v] at hJ
    refine x_false hJ (t := decide ((k : Int) < 5)) (by kernel_rfl) (decide_eq_false (by omega)) ?_
    refine rx hJ false 2 [] [] (.ok (.out (.exit 0)) [] [(2, .slice none 0 0), (3, .pointer (some ⟨b1, 0, none⟩)), (10, .slice (some ⟨bs, 0, none⟩) 5 5), (11, .int .i64 5), (12, .int .i64 (k : Int)), (4, .slice A2 k c2), (13, .bool (decide ((k : Int) < 5)))] [.box b1 [.slice A0 len cap, .int .i64 (((lawF l k).2 : Nat) : Int)], .row (.slice A2 k c2) 68 7 (fcRows (lawF l k).1)] []) trivial trivial (fun _ => by kernel_rfl) ?_
    clear hJ a w; intro a w hJ
    refine x_leave rfl ?_
    refine rx hJ false 9 [] [] (.ok (.out .ret) [] [(2, .slice A2 k c2)] [.box b1 [.slice A0 len cap, .int .i64 (((lawF l k).2 : Nat) : Int)], .row (.slice A2 k c2) 68 7 (fcRows (lawF l k).1)] []) trivial trivial (fun _ => by kernel_rfl) ?_
    clear hJ a w; intro a w hJ
    have fr := hJ.j.rowOut0 (v := .slice A2 k c2) (e := 68) (k := 7) (l := fcRows (lawF l k).1) 1 (by kernel_rfl) rfl
    have ho := hJ.rowOwn (v := .slice A2 k c2) (e := 68) (kk := 7) (l := fcRows (lawF l k).1) 1 (by kernel_rfl)
    refine x_end (hQ [.slice A2 k c2] _ [] hJ (.rtmp hJ.j (by kernel_rfl) .nil) (no_own _) rfl ?_).1
    subst hke
    obtain ⟨b, rfl⟩ := own_some ho (by rw [List.length_map, hll]; decide)
    exact ⟨b, c2, rfl, ho, fr⟩
theorem lawFacts_any (l : List RawD) (sl : Value) (h : Vw) (hr : RS h 4 sl (l.map RawD.cs)) (hlen : l.length * 40 ≤ reachBytes) (hok : ∀ r ∈ l, r.ok) :
    C0 Try.prog 37 #[sl] h (fun v h' => ∃ A c, v = .slice A 5 c ∧ RS h' 7 (.slice A 5 c) (fcRows (lawEnv l))) := by
  intro a b c d
  refine (lawFacts_row l sl h hr hlen hok a b c d).mono ?_
  rintro e w' ⟨v, Bo, rfl, h1, h2, h3, g, c, rfl, -, h5⟩
  exact ⟨_, Bo, rfl, h1, h2, h3, some ⟨g, 0, none⟩, c, rfl, h5⟩
theorem lawFacts_own (l : List RawD) (sl : Value) (h : Vw) (hr : RS h 4 sl (l.map RawD.cs)) (hlen : l.length * 40 ≤ reachBytes) (hok : ∀ r ∈ l, r.ok) :
    CRow Try.prog 37 #[sl] h 68 7 (fun v rows => ∃ b c, v = .slice (some ⟨b, 0, none⟩) 5 c ∧ rows = fcRows (lawEnv l)) := by
  intro a b c d
  refine (lawFacts_row l sl h hr hlen hok a b c d).mono ?_
  rintro e w' ⟨v, Bo, rfl, h1, h2, h3, g, c, rfl, h4, -⟩
  exact ⟨_, Bo, rfl, h1, h2, h3, _, h4, g, c, rfl, rfl⟩

theorem wf_op {op : Int} {l : List Ex} (h1 : 3 ≤ op) (h2 : op ≤ 18) (hl : l.length = arity op) (hw : ∀ x ∈ l, WfE x) : WfE (opE op l) := WfE.mk' (.inr (.inr ⟨h1, h2, rfl, rfl, rfl, rfl, hl⟩)) (WfL.all hw)
theorem sz_op (op : Int) (l : List Ex) : szE (opE op l) = (1 + (szL l).1, 1 + (szL l).2) := szE_eq _
def truthE (b : Bool) : Ex := .mk 1 2 (if b = true then 1 else 0) ⟨#[]⟩ ⟨#[]⟩ []
theorem wf_truth (b : Bool) : WfE (truthE b) ∧ szE (truthE b) = (1, 1) := wf_leaf (.inl ⟨rfl, .inr (.inl ⟨rfl, by cases b <;> simp [truthE, Ex.n], rfl⟩), fun h => (by have h : (2 : Int) = 1 := h; omega), rfl, rfl⟩) rfl
theorem ev_truth (env : Env) (b : Bool) : evalE env (truthE b) = truthV b := by
  rw [evalE_eq, if_pos (show (truthE b).op = 1 from rfl)]; cases b <;> rfl
theorem ev_op (env : Env) (op : Int) (l : List Ex) (h1 : op ≠ 1) (h2 : op ≠ 2) : evalE env (opE op l) =
    if op = 15 ∨ op = 16 then
      (if (firstV (hdV (evalL env l) 0)).2 = false ∨ ((firstV (hdV (evalL env l) 0)).1.n == 1) = (op == 16) then (firstV (hdV (evalL env l) 0)).1 else boolV (hdV (evalL env l) 1))
    else if op = 17 then
      (if (firstV (hdV (evalL env l) 0)).2 = false then (firstV (hdV (evalL env l) 0)).1 else if (firstV (hdV (evalL env l) 0)).1.n = 1 then hdV (evalL env l) 1 else hdV (evalL env l) 2)
    else (match lackV none (evalL env l) with | some v => v | none => applyV op (evalL env l)) := by
  rw [evalE_eq, if_neg (show (opE op l).op ≠ 1 from h1), if_neg (show (opE op l).op ≠ 2 from h2)]; rfl
theorem law_names : NameOk (⟨#[110, 111, 110, 101]⟩ : ByteArray).data.toList := ⟨by decide, by decide, ⟨_, rfl, by decide⟩, by decide, by decide⟩
theorem gen2_ok (l : List RawD) (kind : Int) (h1 : 1 ≤ kind) (h3 : kind ≤ 3) : WfE (genE l some5 2 kind 0).1 ∧ (szE (genE l some5 2 kind 0).1).1 ≤ 13 ∧ (szE (genE l some5 2 kind 0).1).2 ≤ 3 := genE_ok l some5 some5_ok 2 kind 0 h1 h3
theorem lawEnv_ok (l : List RawD) : ∀ p ∈ lawEnv l, OkV p.2 := fun p hp => .inl (lawEnv_known l p hp)
theorem lawEnv_len (l : List RawD) : (lawEnv l).length = 5 := lawF_len l 5
theorem env_ok {l : Env} (h : ∀ p ∈ l, OkV p.2) : EnvOk l := fun _ _ hs => h _ (get_mem hs)
theorem ev_ok {l : Env} (h : ∀ p ∈ l, OkV p.2) {x : Ex} (hw : WfE x) : OkV (evalE l x) := evalE_ok (env_ok h) _ x (Nat.le_refl _) hw

end Go.Proofs.Ytgjndkphfabnnaa

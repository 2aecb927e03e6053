/-
  For all raw things and places RankHangs returns true.
-/
import Derived.Test.YtgjndkphfabnnaaHangs
import Derived.Test.YtgjndkphfabnnaaRanked
import Derived.Test.YtgjndkphfabnnaaNmH
import Derived.Test.YtgjndkphfabnnaaLawX
namespace Go.Proofs.Ytgjndkphfabnnaa
open Go.RowKit
set_option linter.unusedVariables false

set_option maxRecDepth 100000 in
theorem idxH_any (l : List Nat) (v : Value) (s : Nat) (h : Vw) (hr : RS h 1 v (natRows l)) (hl : l.length ≤ 1000000) : C0 Try.prog 69 #[v, .int .i64 (s : Int)] h (fun r _ => r = .int .i64 (fidx (fun y : Nat => (s : Int) == (y : Int)) l)) := by
  obtain ⟨A, cap, rfl, -, -, -⟩ := hr.form
  rw [List.length_map] at *
  generalize hL : l.length = len at *
  refine x_con Try.func69 (c := Try.f69.body.getD .skip) (by kernel_rfl) (N := 19) rfl (by kernel_rfl) ?_
  intro hbx hbad Q hQ a w hJ
  replace hJ : K ⟨19, h.w, h.bad, []⟩ [(0, .slice A len cap), (1, Vi (s : Int))] [] [] h a w := hJ.to (by kernel_rfl) (by kernel_rfl) rfl
  refine rx hJ false 14 [] [] (.ok (.code [0, 1, 0, 1]) [.block 0, .seq [1, 1]] [(0, .slice A len cap), (1, Vi (s : Int)), (4, Vi 0), (7, Vi (len : Int)), (8, Vi 0)] [] []) trivial trivial (fun _ => by kernel_rfl) ?_
  clear hJ a w; intro a w hJ
  refine x_loop (fun (k : Nat) a w => ∃ (h1 : Vw) , K ⟨19, h.w, h.bad, []⟩ [(0, .slice A len cap), (1, Vi (s : Int)), (7, Vi (len : Int)), (8, Vi (k : Int))] [] [] h1 a w ∧ Sees h h1 ∧ (k ≤ len) ∧ (∀ y ∈ l.take k, ((s : Int) == ((y : Nat) : Int)) = false)) (fun k => len - k) (0) (by kernel_rfl) ⟨h, hJ.to (by kernel_rfl) (by kernel_rfl) rfl, Sees.refl _, Nat.zero_le _, fun y hy => by simp at hy⟩ ?_
  clear hJ a w; rintro k a w ⟨h1, hJ, s2, hk, hn⟩
  refine rx hJ false 6 [] [] (.ok (.code [0, 1, 0, 0, 1, 0, 1]) [.seq [1, 1, 0, 0, 1, 0, 1]] [(0, .slice A len cap), (1, Vi (s : Int)), (7, Vi (len : Int)), (8, Vi (k : Int)), (9, .bool (decide ((k : Int) < (len : Int))))] [] []) trivial trivial (fun _ => by kernel_rfl) ?_
  clear hJ a w; intro a w hJ
  rcases (by omega : k < len ∨ k = len) with hlt | hke
  · obtain ⟨f, hfk⟩ : ∃ f, l[k]? = some f := ⟨_, List.getElem?_eq_getElem (by omega)⟩
    have hrow : (natRows l)[k]? = some [.int .i64 (f : Int)] := by rw [List.getElem?_map, hfk]; rfl
    refine x_true hJ (t := decide ((k : Int) < (len : Int))) (by kernel_rfl) (decide_eq_true (by omega)) ?_
    refine rx hJ false 15 [] [] (.ok (.ops [0, 1, 0, 0, 1, 1, 0, 0, 1, 0, 1] 3) [.seq [1, 1, 0, 0, 1, 1, 0, 0, 1, 0, 1], .block 1, .seq [1, 1, 1, 0, 0, 1, 0, 1]] [(0, .slice A len cap), (1, Vi (s : Int)), (7, Vi (len : Int)), (8, Vi (k : Int)), (9, .bool (decide ((k : Int) < (len : Int)))), (10, Vi (k : Int)), (5, Vi (k : Int)), (11, Vi (s : Int)), (12, .slice A len cap), (13, Vi (k : Int))] [] []) trivial trivial (fun _ => by kernel_rfl) ?_
    clear hJ a w; intro a w hJ
    obtain ⟨b3, o4, rfl, -, c5⟩ := RS.row hr (hrow)
    replace hJ := hJ.fact (c5.sees s2)
    refine rx hJ false 5 [.ix b3 o4 len cap k, .f 0 0] [] (.ok (.code [1, 1, 0, 0, 1, 1, 0, 0, 1, 0, 1]) [.block 1, .seq [1, 1, 1, 0, 0, 1, 0, 1]] [(0, .slice (some ⟨b3, o4, none⟩) len cap), (1, Vi (s : Int)), (7, Vi (len : Int)), (8, Vi (k : Int)), (9, .bool (decide ((k : Int) < (len : Int)))), (10, Vi (k : Int)), (5, Vi (k : Int)), (11, Vi (s : Int)), (12, .slice (some ⟨b3, o4, none⟩) len cap), (13, Vi (k : Int)), (14, .pointer (some ⟨b3, o4 + k * 1, none⟩)), (15, Vi (f : Int)), (16, .bool ((s : Int) == (f : Int)))] [] [(b3, o4 + k * 1, [Vi (f : Int)])]) (And.intro (by first | omega | (simp; omega)) (trivial)) trivial (fun _ => by kernel_rfl) ?_
    clear hJ a w; intro a w hJ
    rcases Bool.eq_false_or_eq_true ((s : Int) == (f : Int)) with hq | hq
    · refine x_true hJ (t := (s : Int) == (f : Int)) (by kernel_rfl) (hq) ?_
      refine rx hJ false 9 [] [] (.ok (.out .ret) [] [(0, .slice (some ⟨b3, o4, none⟩) len cap), (1, Vi (s : Int)), (7, Vi (len : Int)), (8, Vi (k : Int)), (9, .bool (decide ((k : Int) < (len : Int)))), (10, Vi (k : Int)), (5, Vi (k : Int)), (11, Vi (s : Int)), (12, .slice (some ⟨b3, o4, none⟩) len cap), (13, Vi (k : Int)), (14, .pointer (some ⟨b3, o4 + k * 1, none⟩)), (15, Vi (f : Int)), (16, .bool ((s : Int) == (f : Int))), (17, Vi (k : Int)), (4, Vi (k : Int))] [] [(b3, o4 + k * 1, [Vi (f : Int)])]) trivial trivial (fun _ => by kernel_rfl) ?_
      clear hJ a w; intro a w hJ
      refine x_leave rfl ?_
      refine rx hJ false 2 [] [] (.ok (.out .ret) [] [(4, Vi (k : Int))] [] [(b3, o4 + k * 1, [Vi (f : Int)])]) trivial trivial (fun _ => by kernel_rfl) ?_
      clear hJ a w; intro a w hJ
      refine x_end (hQ [Vi (k : Int)] _ [] hJ (.rtmp hJ.j (by kernel_rfl) .nil) (no_own _) rfl ?_).1
      exact congrArg (Value.int .i64) (fidx_found _ l k f hn hfk hq).symm
    · skip
      refine x_false hJ (t := (s : Int) == (f : Int)) (by kernel_rfl) (hq) ?_
      refine rx hJ false 7 [] [(18, Vi (IntKind.i64.wrap ((k : Int) + 1)), Vi ((k : Int) + 1))] (.ok (.out .normal) [] [(0, .slice (some ⟨b3, o4, none⟩) len cap), (1, Vi (s : Int)), (7, Vi (len : Int)), (9, .bool (decide ((k : Int) < (len : Int)))), (10, Vi (k : Int)), (5, Vi (k : Int)), (11, Vi (s : Int)), (12, .slice (some ⟨b3, o4, none⟩) len cap), (13, Vi (k : Int)), (14, .pointer (some ⟨b3, o4 + k * 1, none⟩)), (15, Vi (f : Int)), (16, .bool ((s : Int) == (f : Int))), (18, Vi ((k : Int) + 1)), (8, Vi ((k : Int) + 1))] [] [(b3, o4 + k * 1, [Vi (f : Int)])]) trivial (And.intro (i64_wrap (by omega) (by omega)) (trivial)) (fun _ => by kernel_rfl) ?_
      clear hJ a w; intro a w hJ
      exact x_round ⟨k + 1, ⟨h1, (hJ.tof [] (F' := []) (by kernel_rfl)).to (by kernel_rfl) (by kernel_rfl) rfl, s2, by omega, (by rw [take_snoc' l k f hfk]; exact fun y hy => (List.mem_append.1 hy).elim (hn y) (fun e => by rw [List.mem_singleton.1 e]; exact hq))⟩, by omega⟩
  · skip
    have htk : l.take k = l := by rw [hke, ← hL, List.take_length]
    rw [htk] at hn
    refine x_false hJ (t := decide ((k : Int) < (len : Int))) (by kernel_rfl) (decide_eq_false (by omega)) ?_
    refine rx hJ false 2 [] [] (.ok (.out (.exit 0)) [] [(0, .slice A len cap), (1, Vi (s : Int)), (7, Vi (len : Int)), (8, Vi (k : Int)), (9, .bool (decide ((k : Int) < (len : Int))))] [] []) trivial trivial (fun _ => by kernel_rfl) ?_
    clear hJ a w; intro a w hJ
    refine x_leave rfl ?_
    refine rx hJ false 8 [] [] (.ok (.out .ret) [] [(4, Vi (-1))] [] []) trivial trivial (fun _ => by kernel_rfl) ?_
    clear hJ a w; intro a w hJ
    refine x_end (hQ [Vi (-1)] _ [] hJ (.rtmp hJ.j (by kernel_rfl) .nil) (no_own _) rfl ?_).1
    exact congrArg (Value.int .i64) (fidx_none _ l hn).symm
theorem contH_any (l : List Nat) (v : Value) (s : Nat) (h : Vw) (hr : RS h 1 v (natRows l)) (hl : l.length ≤ 1000000) : C0 Try.prog 35 #[v, .int .i64 (s : Int)] h (fun r _ => r = .bool (decide (s ∈ l))) := by
  have hi := fun H q => idxH_any l v s H q hl
  have e : decide (0 ≤ fidx (fun y : Nat => (s : Int) == (y : Int)) l) = decide (s ∈ l) := by
    rw [fidx_dec, Bool.eq_iff_iff, List.any_eq_true, decide_eq_true_iff]
    constructor
    · rintro ⟨y, hy, q⟩
      have := beq_iff_eq.1 q
      rw [show s = y by omega]; exact hy
    · intro q; exact ⟨s, q, beq_self_eq_true _⟩
  generalize fidx (fun y : Nat => (s : Int) == (y : Int)) l = p at *
  obtain ⟨A, cap, rfl, -, -, -⟩ := hr.form
  refine x_con Try.func35 (c := Try.f35.body.getD .skip) (by kernel_rfl) (N := 9) rfl (by kernel_rfl) ?_
  intro hbx hbad Q hQ a w hJ
  replace hJ : K ⟨9, h.w, h.bad, []⟩ [(0, .slice A ((natRows l).length) cap), (1, Vi (s : Int))] [] [] h a w := hJ.to (by kernel_rfl) (by kernel_rfl) rfl
  refine rx hJ false 15 [.cl 69 #[.slice A ((natRows l).length) cap, Vi (s : Int)] (Vi p)] [] (.ok (.out .ret) [] [(4, .bool (decide (p ≥ 0)))] [] []) (And.intro (fun H sH => hi _ (hr.sees sH)) (trivial)) trivial (fun _ => by kernel_rfl) ?_
  clear hJ a w; intro a w hJ
  refine x_end (hQ [.bool (decide (p ≥ 0))] _ [] hJ (.rtmp hJ.j (by kernel_rfl) .nil) (no_own _) rfl ?_).1
  exact congrArg Value.bool e

set_option maxHeartbeats 2000000 in
set_option maxRecDepth 100000 in
theorem rankHangs_c (l : List RawD) (sl : Value) (i j : Int) (h : Vw) (hl : RS h 4 sl (l.map RawD.cs)) (ll : l.length * 40 ≤ reachBytes) (ol : ∀ r ∈ l, r.ok) (i0 : -9223372036854775808 ≤ i) (i1 : i ≤ 9223372036854775807) (j0 : -9223372036854775808 ≤ j) (j1 : j ≤ 9223372036854775807) :
    C0 Try.prog 14 #[sl, .int .i64 i, .int .i64 j] h (fun v _ => v = .bool true) := by
  have hF := fun H q => form_c l sl H q ll ol
  have hn := nFields_le l
  have hfl := form_len l
  have hok := form_okFs l _ (form_nodup l) (fun f => Iff.rfl) (by omega)
  obtain ⟨hp, hs⟩ := ordL_spec (rhoL (needsE (formE l).fields)) (formE l).fields.length (by omega)
  have hnl : (needsE (formE l).fields).length = (formE l).fields.length := by unfold needsE; rw [List.length_map]
  have hI : IsOrd _ _ _ (ordL (rhoL (needsE (formE l).fields)) (formE l).fields.length) (formE l).fields.length := ⟨form_ranked l, hnl, hp, hs⟩
  have hH := fun H A c q (p : Nat) (x : Fd) hx => hangs_any (formE l).fields (.slice A (nFields l) c) H hok q _ _ (form_ranked l) (by omega) (by omega) p x hx
  have hHas := fun x (hx : x ∈ (formE l).fields) (hk : x.kind ≠ 1) H v q s => has_any x.src v H q ((hok.each x hx).wf hk).1 s
  have hndp : ∀ (k : Nat) (g : Fd), (formE l).fields[k]? = some g → plc (formE l).fields g.name = k := fun k g hk => by unfold plc; rw [findF_at (form_nodup l) hk]; rfl
  have a0 := pickL_lo i (nFields l) (by omega)
  have a1 := pickL_hi i (nFields l) (by omega)
  have b0 := pickL_lo j (nFields l) (by omega)
  have b1 := pickL_hi j (nFields l) (by omega)
  have hpa := fun H => c_picked i (nFields l) H i0 i1 (by omega) (by omega)
  have hpb := fun H => c_picked j (nFields l) H j0 j1 (by omega) (by omega)
  obtain ⟨pa, ea⟩ : ∃ k : Nat, pickL i (nFields l) = k := ⟨(pickL i (nFields l)).toNat, by omega⟩
  obtain ⟨pb, eb⟩ : ∃ k : Nat, pickL j (nFields l) = k := ⟨(pickL j (nFields l)).toNat, by omega⟩
  rw [ea] at hpa a0 a1
  rw [eb] at hpb b0 b1
  have hneed : ∀ (p : Nat) (x : Fd), (formE l).fields[p]? = some x → (needsE (formE l).fields).getD p [] = needE (formE l).fields x := fun p x hx => by unfold needsE; rw [List.getD_eq_getElem?_getD, List.getElem?_map, hx]; rfl
  obtain ⟨xa, hxa⟩ : ∃ x, (formE l).fields[pa]? = some x := ⟨_, List.getElem?_eq_getElem (by omega)⟩
  obtain ⟨xb, hxb⟩ : ∃ x, (formE l).fields[pb]? = some x := ⟨_, List.getElem?_eq_getElem (by omega)⟩
  have hda : xb.kind ≠ 1 → hasE xb.src xa.name = true → pa ∈ needE (formE l).fields xb := fun h1 h2 => by
    unfold needE
    rw [if_neg h1]
    exact List.mem_map.2 ⟨xa.name, mem_namesE.2 (hasE_iff.1 h2), hndp pa xa hxa⟩
  rw [← hneed pb xb hxb] at hda
  have hHa := fun H A c q => hH H A c q pa xa hxa
  have hHb := fun H A c q => hH H A c q pb xb hxb
  clear hH hndp hneed hp hs
  rw [hfl] at hF hHa hHb hI
  have haa : pa ∈ hgL (needsE (formE l).fields) pa (ordL (rhoL (needsE (formE l).fields)) (nFields l)) (nFields l) := hgL_mem.2 ⟨by omega, hI.mono (Nat.zero_le _) (Nat.le_refl _) (List.mem_singleton.2 rfl)⟩
  have hsub : pb ∈ hgL (needsE (formE l).fields) pa (ordL (rhoL (needsE (formE l).fields)) (nFields l)) (nFields l) → ∀ m ∈ hgL (needsE (formE l).fields) pb (ordL (rhoL (needsE (formE l).fields)) (nFields l)) (nFields l), m ∈ hgL (needsE (formE l).fields) pa (ordL (rhoL (needsE (formE l).fields)) (nFields l)) (nFields l) := fun hb m hm => by
    rw [hgL_mem] at hb hm ⊢
    exact ⟨hm.1, hI.sub hb.2 (Nat.le_refl _) m hm.2⟩
  have hask : xb.kind ≠ 1 → hasE xb.src xa.name = true → pb ∈ hgL (needsE (formE l).fields) pa (ordL (rhoL (needsE (formE l).fields)) (nFields l)) (nFields l) := fun h1 h2 => hgL_mem.2 ⟨by omega, hI.shut (by omega) (hda h1 h2) (hgL_mem.1 haa).2⟩
  have hla : (hgL (needsE (formE l).fields) pa (ordL (rhoL (needsE (formE l).fields)) (nFields l)) (nFields l)).length ≤ nFields l := hgL_len
  have hlb : (hgL (needsE (formE l).fields) pb (ordL (rhoL (needsE (formE l).fields)) (nFields l)) (nFields l)).length ≤ nFields l := hgL_len
  have hHx := hHas xb (List.mem_of_getElem? hxb)
  clear hI hda hHas
  generalize hgL (needsE (formE l).fields) pa (ordL (rhoL (needsE (formE l).fields)) (nFields l)) (nFields l) = xs at *
  generalize hgL (needsE (formE l).fields) pb (ordL (rhoL (needsE (formE l).fields)) (nFields l)) (nFields l) = ys at *
  have hcx := fun H v s q => contH_any xs v s H q (by omega)
  have hcA := fun H v q => hcx H v pa q
  have hcB := fun H v q => hcx H v pb q
  rw [decide_eq_true haa] at hcA
  generalize hN : nFields l = N at *
  obtain ⟨A1, cap1, rfl, -, -, -⟩ := hl.form
  rw [List.length_map] at *
  generalize l.length = n1 at *
  refine x_con Try.func14 (c := Try.f14.body.getD .skip) (by kernel_rfl) (N := 102) rfl (by kernel_rfl) ?_
  intro hbx hbad Q hQ a w hJ
  replace hJ : K ⟨102, h.w, h.bad, []⟩ [(0, .slice A1 n1 cap1), (1, Vi i), (2, Vi j)] [] [] h a w := hJ.to (by kernel_rfl) (by kernel_rfl) rfl
  refine rx hJ false 8 [] [] (.ok (.ops [0, 1] 1) [.seq [1, 1]] [(1, Vi i), (2, Vi j), (6, .bool false), (16, .slice A1 n1 cap1)] [] []) trivial trivial (fun _ => by kernel_rfl) ?_
  clear hJ a w; intro a w hJ
  refine x_call hJ 17 (hF _ (hl.sees hJ.j.sees)) (fun _ => by kernel_rfl) ?_; clear hJ a w; rintro _ h1 a w s2 ⟨A, c, B, d, rfl, hf⟩ hJ
  refine rx hJ false 23 [.cl 16 #[Vi i, Vi (N : Int)] (Vi (pa : Int)), .cl 16 #[Vi j, Vi (N : Int)] (Vi (pb : Int))] [] (.ok (.ops [0, 1, 1, 1] 3) [.seq [1, 1, 1, 1]] [(6, .bool false), (7, .slice A N c), (8, Vi (pa : Int)), (9, Vi (pb : Int)), (28, .slice A N c), (29, .slice A N c), (30, Vi (pa : Int))] [] []) (And.intro (fun H sH => hpa _) (And.intro (fun H sH => hpb _) (trivial))) trivial (fun _ => by kernel_rfl) ?_
  clear hJ a w; intro a w hJ
  obtain ⟨vs, A3, c3, e3, -, -, hr3, hs3, hl3, hsl⟩ := fds_open hf.fields
  simp only [Value.slice.injEq] at e3
  obtain ⟨rfl, -, rfl⟩ := e3
  rw [hfl] at hr3 hl3
  obtain ⟨ua, hua⟩ : ∃ u, vs[pa]? = some u := ⟨_, List.getElem?_eq_getElem (by omega)⟩
  obtain ⟨ub, hub⟩ : ∃ u, vs[pb]? = some u := ⟨_, List.getElem?_eq_getElem (by omega)⟩
  have hrow := fdRows_get hxa hua
  have hrob := fdRows_get hxb hub
  have hza := AllArgs.get hs3 (x := xa.src) (by rw [List.getElem?_map, hxa]; rfl) hua
  have hzb := AllArgs.get hs3 (x := xb.src) (by rw [List.getElem?_map, hxb]; rfl) hub
  obtain ⟨Aa, na, ca, rfl⟩ := hza.slice
  obtain ⟨Ab, nb, cb, rfl⟩ := hzb.slice
  obtain ⟨b3, o4, rfl, -, c5⟩ := RS.row hr3 (hrow)
  replace hJ := hJ.fact (c5.sees (Sees.refl _))
  refine rx hJ false 3 [.ix b3 o4 N c pa, .f 0 0] [] (.ok (.ops [0, 1, 1, 1] 6) [.seq [1, 1, 1, 1]] [(6, .bool false), (7, .slice (some ⟨b3, o4, none⟩) N c), (8, Vi (pa : Int)), (9, Vi (pb : Int)), (28, .slice (some ⟨b3, o4, none⟩) N c), (33, .string xa.name)] [] [(b3, o4 + pa * 9, [.string xa.name, Vi xa.kind, Vi xa.ty, Vi xa.src.op, Vi xa.src.k, Vi xa.src.n, .string xa.src.s, .string xa.src.nm, .slice Aa na ca])]) (And.intro (by first | omega | (simp; omega)) (trivial)) trivial (fun _ => by kernel_rfl) ?_
  clear hJ a w; intro a w hJ
  refine x_call hJ 34 (hHa _ _ _ ((hf.sees hJ.j.sees)).fields) (fun _ => by kernel_rfl) ?_; clear hJ a w; rintro _ h6 a w s7 ⟨Ax, cx, rfl, hrx⟩ hJ
  refine rx hJ false 12 [] [] (.ok (.ops [0, 1, 1, 1, 1] 3) [.seq [1, 1, 1, 1, 1]] [(6, .bool false), (7, .slice (some ⟨b3, o4, none⟩) N c), (8, Vi (pa : Int)), (9, Vi (pb : Int)), (10, .slice Ax xs.length cx), (11, Vi 0), (38, .slice (some ⟨b3, o4, none⟩) N c), (39, .slice (some ⟨b3, o4, none⟩) N c), (40, Vi (pb : Int))] [] [(b3, o4 + pa * 9, [.string xa.name, Vi xa.kind, Vi xa.ty, Vi xa.src.op, Vi xa.src.k, Vi xa.src.n, .string xa.src.s, .string xa.src.nm, .slice Aa na ca])]) trivial trivial (fun _ => by kernel_rfl) ?_
  clear hJ a w; intro a w hJ
  have c8 := RS.cell hr3 (hrob)
  replace hJ := hJ.fact (c8.sees s7)
  refine rx hJ false 3 [.ix b3 o4 N c pb, .f 0 0] [] (.ok (.ops [0, 1, 1, 1, 1] 6) [.seq [1, 1, 1, 1, 1]] [(6, .bool false), (7, .slice (some ⟨b3, o4, none⟩) N c), (8, Vi (pa : Int)), (9, Vi (pb : Int)), (10, .slice Ax xs.length cx), (11, Vi 0), (38, .slice (some ⟨b3, o4, none⟩) N c), (43, .string xb.name)] [] [(b3, o4 + pb * 9, [.string xb.name, Vi xb.kind, Vi xb.ty, Vi xb.src.op, Vi xb.src.k, Vi xb.src.n, .string xb.src.s, .string xb.src.nm, .slice Ab nb cb]), (b3, o4 + pa * 9, [.string xa.name, Vi xa.kind, Vi xa.ty, Vi xa.src.op, Vi xa.src.k, Vi xa.src.n, .string xa.src.s, .string xa.src.nm, .slice Aa na ca])]) (And.intro (by first | omega | (simp; omega)) (trivial)) trivial (fun _ => by kernel_rfl) ?_
  clear hJ a w; intro a w hJ
  refine x_call hJ 44 (hHb _ _ _ ((hf.sees (s7.trans hJ.j.sees))).fields) (fun _ => by kernel_rfl) ?_; clear hJ a w; rintro _ h9 a w s10 ⟨Ay, cy, rfl, hry⟩ hJ
  refine rx hJ false 10 [] [] (.ok (.ops [0, 0, 1, 1, 1, 1, 1] 0) [.seq [1, 0, 1, 1, 1, 1, 1], .seq [1, 1, 1, 1, 1, 1]] [(6, .bool false), (7, .slice (some ⟨b3, o4, none⟩) N c), (8, Vi (pa : Int)), (9, Vi (pb : Int)), (10, .slice Ax xs.length cx), (11, Vi 0), (12, .slice Ay ys.length cy), (13, Vi 0)] [] [(b3, o4 + pb * 9, [.string xb.name, Vi xb.kind, Vi xb.ty, Vi xb.src.op, Vi xb.src.k, Vi xb.src.n, .string xb.src.s, .string xb.src.nm, .slice Ab nb cb]), (b3, o4 + pa * 9, [.string xa.name, Vi xa.kind, Vi xa.ty, Vi xa.src.op, Vi xa.src.k, Vi xa.src.n, .string xa.src.s, .string xa.src.nm, .slice Aa na ca])]) trivial trivial (fun _ => by kernel_rfl) ?_
  clear hJ a w; intro a w hJ
  refine rx hJ false 29 [.cl 43 #[] (.bool true), .cl 35 #[.slice Ax xs.length cx, Vi (pa : Int)] (.bool true), .cl 35 #[.slice Ax xs.length cx, Vi (pb : Int)] (.bool (decide (pb ∈ xs)))] [] (.ok (.code [1, 0, 1, 1, 1, 1, 1, 1]) [.seq [1, 1, 1, 1, 1, 1, 1]] [(6, .bool false), (7, .slice (some ⟨b3, o4, none⟩) N c), (8, Vi (pa : Int)), (9, Vi (pb : Int)), (10, .slice Ax xs.length cx), (12, .slice Ay ys.length cy), (65, .bool (decide (pb ∈ xs)))] [] [(b3, o4 + pb * 9, [.string xb.name, Vi xb.kind, Vi xb.ty, Vi xb.src.op, Vi xb.src.k, Vi xb.src.n, .string xb.src.s, .string xb.src.nm, .slice Ab nb cb]), (b3, o4 + pa * 9, [.string xa.name, Vi xa.kind, Vi xa.ty, Vi xa.src.op, Vi xa.src.k, Vi xa.src.n, .string xa.src.s, .string xa.src.nm, .slice Aa na ca])]) (And.intro (fun H sH => ranked_any _) (And.intro (fun H sH => hcA _ _ (hrx.sees (s10.trans sH))) (And.intro (fun H sH => hcB _ _ (hrx.sees (s10.trans sH))) (trivial)))) trivial (fun _ => by kernel_rfl) ?_
  clear hJ a w; intro a w hJ
  by_cases hb : pb ∈ xs
  · have hcY := hcB
    rw [decide_eq_true hb] at hcY
    refine x_true hJ (t := decide (pb ∈ xs)) (by kernel_rfl) (decide_eq_true hb) ?_
    refine rx hJ false 8 [] [] (.ok (.code [0, 1, 0, 1, 0, 1, 1, 1, 1, 1, 1]) [.block 0, .seq [1, 1, 1, 1, 1, 1, 1]] [(6, .bool false), (7, .slice (some ⟨b3, o4, none⟩) N c), (8, Vi (pa : Int)), (9, Vi (pb : Int)), (10, .slice Ax xs.length cx), (66, .slice Ay ys.length cy), (67, Vi (ys.length : Int)), (68, Vi 0)] [] [(b3, o4 + pb * 9, [.string xb.name, Vi xb.kind, Vi xb.ty, Vi xb.src.op, Vi xb.src.k, Vi xb.src.n, .string xb.src.s, .string xb.src.nm, .slice Ab nb cb]), (b3, o4 + pa * 9, [.string xa.name, Vi xa.kind, Vi xa.ty, Vi xa.src.op, Vi xa.src.k, Vi xa.src.n, .string xa.src.s, .string xa.src.nm, .slice Aa na ca])]) trivial trivial (fun _ => by kernel_rfl) ?_
    clear hJ a w; intro a w hJ
    refine x_loop (fun (k : Nat) a w => ∃ (h11 : Vw) , K ⟨102, h.w, h.bad, []⟩ [(7, .slice (some ⟨b3, o4, none⟩) N c), (8, Vi (pa : Int)), (9, Vi (pb : Int)), (10, .slice Ax xs.length cx), (66, .slice Ay ys.length cy), (67, Vi (ys.length : Int)), (68, Vi (k : Int))] [] [(b3, o4 + pb * 9, [.string xb.name, Vi xb.kind, Vi xb.ty, Vi xb.src.op, Vi xb.src.k, Vi xb.src.n, .string xb.src.s, .string xb.src.nm, .slice Ab nb cb]), (b3, o4 + pa * 9, [.string xa.name, Vi xa.kind, Vi xa.ty, Vi xa.src.op, Vi xa.src.k, Vi xa.src.n, .string xa.src.s, .string xa.src.nm, .slice Aa na ca])] h11 a w ∧ Sees h9 h11 ∧ (k ≤ ys.length)) (fun k => ys.length - k) (0) (by kernel_rfl) ⟨h9, hJ.to (by kernel_rfl) (by kernel_rfl) rfl, Sees.refl _, Nat.zero_le _⟩ ?_
    clear hJ a w; rintro k a w ⟨h11, hJ, s12, hk⟩
    refine rx hJ false 6 [] [] (.ok (.code [0, 1, 0, 0, 1, 0, 1, 0, 1, 1, 1, 1, 1, 1]) [.seq [1, 1, 0, 0, 1, 0, 1, 0, 1, 1, 1, 1, 1, 1]] [(7, .slice (some ⟨b3, o4, none⟩) N c), (8, Vi (pa : Int)), (9, Vi (pb : Int)), (10, .slice Ax xs.length cx), (66, .slice Ay ys.length cy), (67, Vi (ys.length : Int)), (68, Vi (k : Int)), (69, .bool (decide ((k : Int) < (ys.length : Int))))] [] [(b3, o4 + pb * 9, [.string xb.name, Vi xb.kind, Vi xb.ty, Vi xb.src.op, Vi xb.src.k, Vi xb.src.n, .string xb.src.s, .string xb.src.nm, .slice Ab nb cb]), (b3, o4 + pa * 9, [.string xa.name, Vi xa.kind, Vi xa.ty, Vi xa.src.op, Vi xa.src.k, Vi xa.src.n, .string xa.src.s, .string xa.src.nm, .slice Aa na ca])]) trivial trivial (fun _ => by kernel_rfl) ?_
    clear hJ a w; intro a w hJ
    rcases (by omega : k < ys.length ∨ k = ys.length) with hlt | hke
    · obtain ⟨q, hq⟩ : ∃ q, ys[k]? = some q := ⟨_, List.getElem?_eq_getElem (by omega)⟩
      have hqr : (natRows ys)[k]? = some [.int .i64 (q : Int)] := by rw [List.getElem?_map, hq]; rfl
      have hcq := fun H v r => hcx H v q r
      rw [decide_eq_true (hsub hb q (List.mem_of_getElem? hq))] at hcq
      refine x_true hJ (t := decide ((k : Int) < (ys.length : Int))) (by kernel_rfl) (decide_eq_true (by omega)) ?_
      refine rx hJ false 6 [] [] (.ok (.ops [0, 0, 0, 1, 1, 0, 0, 1, 0, 1, 0, 1, 1, 1, 1, 1, 1] 0) [.seq [1, 0, 0, 1, 1, 0, 0, 1, 0, 1, 0, 1, 1, 1, 1, 1, 1], .block 1, .seq [1, 1, 1, 0, 0, 1, 0, 1, 0, 1, 1, 1, 1, 1, 1]] [(7, .slice (some ⟨b3, o4, none⟩) N c), (8, Vi (pa : Int)), (9, Vi (pb : Int)), (10, .slice Ax xs.length cx), (66, .slice Ay ys.length cy), (67, Vi (ys.length : Int)), (68, Vi (k : Int)), (69, .bool (decide ((k : Int) < (ys.length : Int))))] [] [(b3, o4 + pb * 9, [.string xb.name, Vi xb.kind, Vi xb.ty, Vi xb.src.op, Vi xb.src.k, Vi xb.src.n, .string xb.src.s, .string xb.src.nm, .slice Ab nb cb]), (b3, o4 + pa * 9, [.string xa.name, Vi xa.kind, Vi xa.ty, Vi xa.src.op, Vi xa.src.k, Vi xa.src.n, .string xa.src.s, .string xa.src.nm, .slice Aa na ca])]) trivial trivial (fun _ => by kernel_rfl) ?_
      clear hJ a w; intro a w hJ
      obtain ⟨b13, o14, rfl, -, c15⟩ := RS.row hry (hqr)
      replace hJ := hJ.fact (c15.sees s12)
      refine rx hJ false 21 [.ix b13 o14 ys.length cy k, .f 0 0, .cl 35 #[.slice Ax xs.length cx, Vi (q : Int)] (.bool true)] [(76, Vi (IntKind.i64.wrap ((k : Int) + 1)), Vi ((k : Int) + 1))] (.ok (.out .normal) [] [(7, .slice (some ⟨b3, o4, none⟩) N c), (8, Vi (pa : Int)), (9, Vi (pb : Int)), (10, .slice Ax xs.length cx), (66, .slice (some ⟨b13, o14, none⟩) ys.length cy), (67, Vi (ys.length : Int)), (69, .bool (decide ((k : Int) < (ys.length : Int)))), (70, .pointer (some ⟨b13, o14 + k * 1, none⟩)), (71, Vi (q : Int)), (15, Vi (q : Int)), (72, .slice Ax xs.length cx), (73, Vi (q : Int)), (74, .bool true), (75, .bool false), (76, Vi ((k : Int) + 1)), (68, Vi ((k : Int) + 1))] [] [(b13, o14 + k * 1, [Vi (q : Int)]), (b3, o4 + pb * 9, [.string xb.name, Vi xb.kind, Vi xb.ty, Vi xb.src.op, Vi xb.src.k, Vi xb.src.n, .string xb.src.s, .string xb.src.nm, .slice Ab nb cb]), (b3, o4 + pa * 9, [.string xa.name, Vi xa.kind, Vi xa.ty, Vi xa.src.op, Vi xa.src.k, Vi xa.src.n, .string xa.src.s, .string xa.src.nm, .slice Aa na ca])]) (And.intro (by first | omega | (simp; omega)) (And.intro (fun H sH => hcq _ _ (hrx.sees (s10.trans (s12.trans sH)))) (trivial))) (And.intro (i64_wrap (by omega) (by omega)) (trivial)) (fun _ => by kernel_rfl) ?_
      clear hJ a w; intro a w hJ
      exact x_round ⟨k + 1, ⟨h11, (hJ.tof [1, 2] (F' := [(b3, o4 + pb * 9, [.string xb.name, Vi xb.kind, Vi xb.ty, Vi xb.src.op, Vi xb.src.k, Vi xb.src.n, .string xb.src.s, .string xb.src.nm, .slice Ab nb cb]), (b3, o4 + pa * 9, [.string xa.name, Vi xa.kind, Vi xa.ty, Vi xa.src.op, Vi xa.src.k, Vi xa.src.n, .string xa.src.s, .string xa.src.nm, .slice Aa na ca])]) (by kernel_rfl)).to (by kernel_rfl) (by kernel_rfl) rfl, s12, by omega⟩, by omega⟩
    · skip
      by_cases g1 : xb.kind = 1
      · skip
        refine x_false hJ (t := decide ((k : Int) < (ys.length : Int))) (by kernel_rfl) (decide_eq_false (by omega)) ?_
        refine rx hJ false 2 [] [] (.ok (.out (.exit 0)) [] [(7, .slice (some ⟨b3, o4, none⟩) N c), (8, Vi (pa : Int)), (9, Vi (pb : Int)), (10, .slice Ax xs.length cx), (66, .slice Ay ys.length cy), (67, Vi (ys.length : Int)), (68, Vi (k : Int)), (69, .bool (decide ((k : Int) < (ys.length : Int))))] [] [(b3, o4 + pb * 9, [.string xb.name, Vi xb.kind, Vi xb.ty, Vi xb.src.op, Vi xb.src.k, Vi xb.src.n, .string xb.src.s, .string xb.src.nm, .slice Ab nb cb]), (b3, o4 + pa * 9, [.string xa.name, Vi xa.kind, Vi xa.ty, Vi xa.src.op, Vi xa.src.k, Vi xa.src.n, .string xa.src.s, .string xa.src.nm, .slice Aa na ca])]) trivial trivial (fun _ => by kernel_rfl) ?_
        clear hJ a w; intro a w hJ
        refine x_leave rfl ?_
        refine rx hJ false 3 [] [] (.ok (.code [0, 1, 1, 1, 1, 1, 1, 1]) [.seq [1, 1, 1, 1, 1, 1, 1, 1]] [(7, .slice (some ⟨b3, o4, none⟩) N c), (8, Vi (pa : Int)), (9, Vi (pb : Int)), (10, .slice Ax xs.length cx)] [] [(b3, o4 + pb * 9, [.string xb.name, Vi xb.kind, Vi xb.ty, Vi xb.src.op, Vi xb.src.k, Vi xb.src.n, .string xb.src.s, .string xb.src.nm, .slice Ab nb cb]), (b3, o4 + pa * 9, [.string xa.name, Vi xa.kind, Vi xa.ty, Vi xa.src.op, Vi xa.src.k, Vi xa.src.n, .string xa.src.s, .string xa.src.nm, .slice Aa na ca])]) trivial trivial (fun _ => by kernel_rfl) ?_
        clear hJ a w; intro a w hJ
        have c16 := RS.cell hr3 (hrob)
        replace hJ := hJ.fact (c16.sees (s7.trans (s10.trans s12)))
        have c17 := RS.cell hr3 (hrob)
        replace hJ := hJ.fact (c17.sees (s7.trans (s10.trans s12)))
        have c18 := RS.cell hr3 (hrow)
        replace hJ := hJ.fact (c18.sees (s7.trans (s10.trans s12)))
        let R : Reg := ⟨⟨102, h.w, h.bad, []⟩, [(0, 77, fun gh => .slice (some ⟨b3, o4, none⟩) N c), (1, 78, fun gh => Vi (pb : Int)), (2, 79, fun gh => .pointer (some ⟨b3, o4 + pb * 9, none⟩)), (3, 80, fun gh => .pointer (some ⟨b3, o4 + pb * 9 + 1, none⟩)), (4, 81, fun gh => Vi xb.kind), (5, 82, fun gh => .bool true), (6, 83, fun gh => .bool true), (7, 84, fun gh => undef), (8, 85, fun gh => undef), (9, 86, fun gh => undef), (10, 87, fun gh => undef), (11, 88, fun gh => undef), (12, 89, fun gh => undef), (13, 90, fun gh => undef), (14, 91, fun gh => undef), (15, 92, fun gh => undef), (16, 93, fun gh => undef), (17, 94, fun gh => undef), (18, 95, fun gh => undef), (19, 96, fun gh => .bool true), (20, 97, fun gh => .bool true), (21, 98, fun gh => undef), (22, 99, fun gh => undef), (23, 100, fun gh => undef), (24, 101, fun gh => .bool true), (25, 6, fun gh => .bool true)], [(7, .slice (some ⟨b3, o4, none⟩) N c), (8, Vi (pa : Int)), (9, Vi (pb : Int)), (10, .slice Ax xs.length cx)], [], [], [[], [], [0, 1], [0, 1, 2], [0, 1, 2, 3], [0, 1, 2, 3, 4], [0, 1, 2, 3, 4, 5], [0, 1, 2, 3, 4, 5, 6], [0, 1, 2, 3, 4, 5, 6], [0, 1, 2, 3, 4, 5, 6, 7, 8], [0, 1, 2, 3, 4, 5, 6, 7, 8, 9], [0, 1, 2, 3, 4, 5, 6, 7, 8, 9, 10], [0, 1, 2, 3, 4, 5, 6], [0, 1, 2, 3, 4, 5, 6], [0, 1, 2, 3, 4, 5, 6, 12, 13], [0, 1, 2, 3, 4, 5, 6, 12, 13, 14], [0, 1, 2, 3, 4, 5, 6, 12, 13, 14, 15], [0, 1, 2, 3, 4, 5, 6, 7, 8, 9, 10, 11, 12, 13, 14, 15, 16], [0, 1, 2, 3, 4, 5, 6, 7, 8, 9, 10, 11, 12, 13, 14, 15, 16, 17], [0, 1, 2, 3, 4, 5, 6, 7, 8, 9, 10, 11, 12, 13, 14, 15, 16, 17, 18], [0, 1, 2, 3, 4, 5, 6, 7, 8, 9, 10, 11, 12, 13, 14, 15, 16, 17, 18, 19], [0, 1, 2, 3, 4, 5, 6, 7, 8, 9, 10, 11, 12, 13, 14, 15, 16, 17, 18, 19, 20], [0, 1, 2, 3, 4, 5, 6, 7, 8, 9, 10, 11, 12, 13, 14, 15, 16, 17, 18, 19, 20], [0, 1, 2, 3, 4, 5, 6, 7, 8, 9, 10, 11, 12, 13, 14, 15, 16, 17, 18, 19, 20, 21, 22], [0, 1, 2, 3, 4, 5, 6, 7, 8, 9, 10, 11, 12, 13, 14, 15, 16, 17, 18, 19, 20, 21, 22, 23], [0, 1, 2, 3, 4, 5, 6, 7, 8, 9, 10, 11, 12, 13, 14, 15, 16, 17, 18, 19, 20, 21, 22, 23, 24]], h11⟩
        have hmono : ∀ zq ∈ R.F, ∀ zx zh zi, Sees zh zi → zq.2 zx zh → zq.2 zx zi := mono_nil
        refine x_region (by kernel_rfl) R hJ 26 [.pu, .pu, .cl, .pu, .lf 1 1, .cl, .pu, .ps, .ps, .ps, .ps, .ps, .ps, .ps, .ps, .ps, .ps, .ps, .ps, .pu, .pu, .ps, .ps, .ps, .pu, .pu] (by kernel_rfl) hmono (fun _ _ _ => by kernel_rfl) (fun hT hA => ?_) ?_
        · clear hJ
          refine And.intro (r_pure hT hA 79 (fun gh => .pointer (some ⟨b3, o4 + pb * 9, none⟩)) [0, 1] 2 (by kernel_rfl) (by kernel_rfl) (by kernel_rfl) (fun _ => by kernel_rfl) (fun gh w => run_indexAddr (t := 30) (x := (.tmp 77)) (y := (.tmp 78)) (b := b3) (off := o4) (n := N) (cap := c) (k := pb) (e := 40) (kk := 9) (by kernel_rfl) (by kernel_rfl) (by kernel_rfl) (by first | omega | (simp; omega)) Try.underlying30 (by kernel_rfl))) ?_
          refine And.intro (r_pure hT hA 82 (fun gh => .bool true) [4] 5 (by kernel_rfl) (by kernel_rfl) (by kernel_rfl) (fun _ => by kernel_rfl) (fun gh w => run_eq (v0 := .bool (xb.kind == 1)) (by kernel_rfl) (congrArg Value.bool (beq_iff_eq.2 g1)))) ?_
          trivial
        clear hJ a w; intro gh h19 a w sR hJ1 hF; have s20 : Sees h11 h19 := sR; clear sR
        have hJ : K ⟨102, h.w, h.bad, []⟩ [(6, .bool true)] [] [(b3, o4 + pa * 9, [.string xa.name, Vi xa.kind, Vi xa.ty, Vi xa.src.op, Vi xa.src.k, Vi xa.src.n, .string xa.src.s, .string xa.src.nm, .slice Aa na ca]), (b3, o4 + pb * 9, [.string xb.name, Vi xb.kind, Vi xb.ty, Vi xb.src.op, Vi xb.src.k, Vi xb.src.n, .string xb.src.s, .string xb.src.nm, .slice Ab nb cb]), (b3, o4 + pb * 9, [.string xb.name, Vi xb.kind, Vi xb.ty, Vi xb.src.op, Vi xb.src.k, Vi xb.src.n, .string xb.src.s, .string xb.src.nm, .slice Ab nb cb]), (b3, o4 + pb * 9, [.string xb.name, Vi xb.kind, Vi xb.ty, Vi xb.src.op, Vi xb.src.k, Vi xb.src.n, .string xb.src.s, .string xb.src.nm, .slice Ab nb cb]), (b3, o4 + pa * 9, [.string xa.name, Vi xa.kind, Vi xa.ty, Vi xa.src.op, Vi xa.src.k, Vi xa.src.n, .string xa.src.s, .string xa.src.nm, .slice Aa na ca])] h19 a w := hJ1.to (by kernel_rfl) (by kernel_rfl) rfl
        clear hJ1 hF hmono R
        clear gh
        refine rx hJ false 2 [] [] (.ok (.out .ret) [] [(6, .bool true)] [] [(b3, o4 + pa * 9, [.string xa.name, Vi xa.kind, Vi xa.ty, Vi xa.src.op, Vi xa.src.k, Vi xa.src.n, .string xa.src.s, .string xa.src.nm, .slice Aa na ca]), (b3, o4 + pb * 9, [.string xb.name, Vi xb.kind, Vi xb.ty, Vi xb.src.op, Vi xb.src.k, Vi xb.src.n, .string xb.src.s, .string xb.src.nm, .slice Ab nb cb]), (b3, o4 + pb * 9, [.string xb.name, Vi xb.kind, Vi xb.ty, Vi xb.src.op, Vi xb.src.k, Vi xb.src.n, .string xb.src.s, .string xb.src.nm, .slice Ab nb cb]), (b3, o4 + pb * 9, [.string xb.name, Vi xb.kind, Vi xb.ty, Vi xb.src.op, Vi xb.src.k, Vi xb.src.n, .string xb.src.s, .string xb.src.nm, .slice Ab nb cb]), (b3, o4 + pa * 9, [.string xa.name, Vi xa.kind, Vi xa.ty, Vi xa.src.op, Vi xa.src.k, Vi xa.src.n, .string xa.src.s, .string xa.src.nm, .slice Aa na ca])]) trivial trivial (fun _ => by kernel_rfl) ?_
        clear hJ a w; intro a w hJ
        refine x_end (hQ [.bool true] _ [] hJ (.rtmp hJ.j (by kernel_rfl) .nil) (no_own _) rfl ?_).1
        exact rfl
      · skip
        have hHg := fun H v q => hHx g1 H v q xa.name
        rcases Bool.eq_false_or_eq_true (hasE xb.src xa.name) with q2 | q2
        · skip
          rw [q2] at hHg
          refine x_false hJ (t := decide ((k : Int) < (ys.length : Int))) (by kernel_rfl) (decide_eq_false (by omega)) ?_
          refine rx hJ false 2 [] [] (.ok (.out (.exit 0)) [] [(7, .slice (some ⟨b3, o4, none⟩) N c), (8, Vi (pa : Int)), (9, Vi (pb : Int)), (10, .slice Ax xs.length cx), (66, .slice Ay ys.length cy), (67, Vi (ys.length : Int)), (68, Vi (k : Int)), (69, .bool (decide ((k : Int) < (ys.length : Int))))] [] [(b3, o4 + pb * 9, [.string xb.name, Vi xb.kind, Vi xb.ty, Vi xb.src.op, Vi xb.src.k, Vi xb.src.n, .string xb.src.s, .string xb.src.nm, .slice Ab nb cb]), (b3, o4 + pa * 9, [.string xa.name, Vi xa.kind, Vi xa.ty, Vi xa.src.op, Vi xa.src.k, Vi xa.src.n, .string xa.src.s, .string xa.src.nm, .slice Aa na ca])]) trivial trivial (fun _ => by kernel_rfl) ?_
          clear hJ a w; intro a w hJ
          refine x_leave rfl ?_
          refine rx hJ false 3 [] [] (.ok (.code [0, 1, 1, 1, 1, 1, 1, 1]) [.seq [1, 1, 1, 1, 1, 1, 1, 1]] [(7, .slice (some ⟨b3, o4, none⟩) N c), (8, Vi (pa : Int)), (9, Vi (pb : Int)), (10, .slice Ax xs.length cx)] [] [(b3, o4 + pb * 9, [.string xb.name, Vi xb.kind, Vi xb.ty, Vi xb.src.op, Vi xb.src.k, Vi xb.src.n, .string xb.src.s, .string xb.src.nm, .slice Ab nb cb]), (b3, o4 + pa * 9, [.string xa.name, Vi xa.kind, Vi xa.ty, Vi xa.src.op, Vi xa.src.k, Vi xa.src.n, .string xa.src.s, .string xa.src.nm, .slice Aa na ca])]) trivial trivial (fun _ => by kernel_rfl) ?_
          clear hJ a w; intro a w hJ
          have c21 := RS.cell hr3 (hrob)
          replace hJ := hJ.fact (c21.sees (s7.trans (s10.trans s12)))
          have c22 := RS.cell hr3 (hrob)
          replace hJ := hJ.fact (c22.sees (s7.trans (s10.trans s12)))
          have c23 := RS.cell hr3 (hrow)
          replace hJ := hJ.fact (c23.sees (s7.trans (s10.trans s12)))
          let R : Reg := ⟨⟨102, h.w, h.bad, []⟩, [(0, 77, fun gh => .slice (some ⟨b3, o4, none⟩) N c), (1, 78, fun gh => Vi (pb : Int)), (2, 79, fun gh => .pointer (some ⟨b3, o4 + pb * 9, none⟩)), (3, 80, fun gh => .pointer (some ⟨b3, o4 + pb * 9 + 1, none⟩)), (4, 81, fun gh => Vi xb.kind), (5, 82, fun gh => .bool false), (6, 83, fun gh => .bool false), (7, 84, fun gh => .slice (some ⟨b3, o4, none⟩) N c), (8, 85, fun gh => Vi (pb : Int)), (9, 86, fun gh => .pointer (some ⟨b3, o4 + pb * 9, none⟩)), (10, 87, fun gh => .pointer (some ⟨b3, o4 + pb * 9 + 3, none⟩)), (11, 88, fun gh => .agg #[Vi xb.src.op, Vi xb.src.k, Vi xb.src.n, .string xb.src.s, .string xb.src.nm, .slice Ab nb cb]), (12, 89, fun gh => .slice (some ⟨b3, o4, none⟩) N c), (13, 90, fun gh => Vi (pa : Int)), (14, 91, fun gh => .pointer (some ⟨b3, o4 + pa * 9, none⟩)), (15, 92, fun gh => .pointer (some ⟨b3, o4 + pa * 9, none⟩)), (16, 93, fun gh => .string xa.name), (17, 94, fun gh => .bool true), (18, 95, fun gh => .bool false), (19, 96, fun gh => .bool false), (20, 97, fun gh => .bool false), (21, 98, fun gh => .slice Ax xs.length cx), (22, 99, fun gh => Vi (pb : Int)), (23, 100, fun gh => .bool true), (24, 101, fun gh => .bool true), (25, 6, fun gh => .bool true)], [(7, .slice (some ⟨b3, o4, none⟩) N c), (8, Vi (pa : Int)), (9, Vi (pb : Int)), (10, .slice Ax xs.length cx)], [], [], [[], [], [0, 1], [0, 1, 2], [0, 1, 2, 3], [0, 1, 2, 3, 4], [0, 1, 2, 3, 4, 5], [0, 1, 2, 3, 4, 5, 6], [0, 1, 2, 3, 4, 5, 6], [0, 1, 2, 3, 4, 5, 6, 7, 8], [0, 1, 2, 3, 4, 5, 6, 7, 8, 9], [0, 1, 2, 3, 4, 5, 6, 7, 8, 9, 10], [0, 1, 2, 3, 4, 5, 6], [0, 1, 2, 3, 4, 5, 6], [0, 1, 2, 3, 4, 5, 6, 12, 13], [0, 1, 2, 3, 4, 5, 6, 12, 13, 14], [0, 1, 2, 3, 4, 5, 6, 12, 13, 14, 15], [0, 1, 2, 3, 4, 5, 6, 7, 8, 9, 10, 11, 12, 13, 14, 15, 16], [0, 1, 2, 3, 4, 5, 6, 7, 8, 9, 10, 11, 12, 13, 14, 15, 16, 17], [0, 1, 2, 3, 4, 5, 6, 7, 8, 9, 10, 11, 12, 13, 14, 15, 16, 17, 18], [0, 1, 2, 3, 4, 5, 6, 7, 8, 9, 10, 11, 12, 13, 14, 15, 16, 17, 18, 19], [0, 1, 2, 3, 4, 5, 6, 7, 8, 9, 10, 11, 12, 13, 14, 15, 16, 17, 18, 19, 20], [0, 1, 2, 3, 4, 5, 6, 7, 8, 9, 10, 11, 12, 13, 14, 15, 16, 17, 18, 19, 20], [0, 1, 2, 3, 4, 5, 6, 7, 8, 9, 10, 11, 12, 13, 14, 15, 16, 17, 18, 19, 20, 21, 22], [0, 1, 2, 3, 4, 5, 6, 7, 8, 9, 10, 11, 12, 13, 14, 15, 16, 17, 18, 19, 20, 21, 22, 23], [0, 1, 2, 3, 4, 5, 6, 7, 8, 9, 10, 11, 12, 13, 14, 15, 16, 17, 18, 19, 20, 21, 22, 23, 24]], h11⟩
          have hmono : ∀ zq ∈ R.F, ∀ zx zh zi, Sees zh zi → zq.2 zx zh → zq.2 zx zi := mono_nil
          refine x_region (by kernel_rfl) R hJ 26 [.pu, .pu, .cl, .pu, .lf 1 1, .cl, .pu, .pu, .pu, .cl, .pu, .lf 1 3, .pu, .pu, .cl, .pu, .lf 0 0, .cl, .pu, .pu, .pu, .pu, .pu, .cl, .pu, .pu] (by kernel_rfl) hmono (fun _ _ _ => by kernel_rfl) (fun hT hA => ?_) ?_
          · clear hJ
            refine And.intro (r_pure hT hA 79 (fun gh => .pointer (some ⟨b3, o4 + pb * 9, none⟩)) [0, 1] 2 (by kernel_rfl) (by kernel_rfl) (by kernel_rfl) (fun _ => by kernel_rfl) (fun gh w => run_indexAddr (t := 30) (x := (.tmp 77)) (y := (.tmp 78)) (b := b3) (off := o4) (n := N) (cap := c) (k := pb) (e := 40) (kk := 9) (by kernel_rfl) (by kernel_rfl) (by kernel_rfl) (by first | omega | (simp; omega)) Try.underlying30 (by kernel_rfl))) ?_
            refine And.intro (r_pure hT hA 82 (fun gh => .bool false) [4] 5 (by kernel_rfl) (by kernel_rfl) (by kernel_rfl) (fun _ => by kernel_rfl) (fun gh w => run_eq (v0 := .bool (xb.kind == 1)) (by kernel_rfl) (congrArg Value.bool (beq_eq_false_iff_ne.2 g1)))) ?_
            refine And.intro (r_pure hT hA 86 (fun gh => .pointer (some ⟨b3, o4 + pb * 9, none⟩)) [6, 7, 8] 9 (by kernel_rfl) (by kernel_rfl) (by kernel_rfl) (fun _ => by kernel_rfl) (fun gh w => run_indexAddr (t := 30) (x := (.tmp 84)) (y := (.tmp 85)) (b := b3) (off := o4) (n := N) (cap := c) (k := pb) (e := 40) (kk := 9) (by kernel_rfl) (by kernel_rfl) (by kernel_rfl) (by first | omega | (simp; omega)) Try.underlying30 (by kernel_rfl))) ?_
            refine And.intro (r_pure hT hA 91 (fun gh => .pointer (some ⟨b3, o4 + pa * 9, none⟩)) [6, 12, 13] 14 (by kernel_rfl) (by kernel_rfl) (by kernel_rfl) (fun _ => by kernel_rfl) (fun gh w => run_indexAddr (t := 30) (x := (.tmp 89)) (y := (.tmp 90)) (b := b3) (off := o4) (n := N) (cap := c) (k := pa) (e := 40) (kk := 9) (by kernel_rfl) (by kernel_rfl) (by kernel_rfl) (by first | omega | (simp; omega)) Try.underlying30 (by kernel_rfl))) ?_
            refine And.intro (r_callv hT hA hmono 94 (fun gh => .bool true) [6, 11, 16] 17 (by kernel_rfl) (by kernel_rfl) (by kernel_rfl) (fun _ => by kernel_rfl) 23 (fun gh => #[.agg #[Vi xb.src.op, Vi xb.src.k, Vi xb.src.n, .string xb.src.s, .string xb.src.nm, .slice Ab nb cb], .string xa.name]) (fun _ _ => by kernel_rfl) (fun gh H sH fH lent => hHg _ _ (hzb.sees (s7.trans (s10.trans (s12.trans sH)))))) ?_
            refine And.intro (r_callv hT hA hmono 100 (fun gh => .bool true) [20, 21, 22] 23 (by kernel_rfl) (by kernel_rfl) (by kernel_rfl) (fun _ => by kernel_rfl) 35 (fun gh => #[.slice Ax xs.length cx, Vi (pb : Int)]) (fun _ _ => by kernel_rfl) (fun gh H sH fH lent => hcY _ _ (hrx.sees (s10.trans (s12.trans sH))))) ?_
            trivial
          clear hJ a w; intro gh h24 a w sR hJ1 hF; have s25 : Sees h11 h24 := sR; clear sR
          have hJ : K ⟨102, h.w, h.bad, []⟩ [(6, .bool true)] [] [(b3, o4 + pa * 9, [.string xa.name, Vi xa.kind, Vi xa.ty, Vi xa.src.op, Vi xa.src.k, Vi xa.src.n, .string xa.src.s, .string xa.src.nm, .slice Aa na ca]), (b3, o4 + pb * 9, [.string xb.name, Vi xb.kind, Vi xb.ty, Vi xb.src.op, Vi xb.src.k, Vi xb.src.n, .string xb.src.s, .string xb.src.nm, .slice Ab nb cb]), (b3, o4 + pb * 9, [.string xb.name, Vi xb.kind, Vi xb.ty, Vi xb.src.op, Vi xb.src.k, Vi xb.src.n, .string xb.src.s, .string xb.src.nm, .slice Ab nb cb]), (b3, o4 + pb * 9, [.string xb.name, Vi xb.kind, Vi xb.ty, Vi xb.src.op, Vi xb.src.k, Vi xb.src.n, .string xb.src.s, .string xb.src.nm, .slice Ab nb cb]), (b3, o4 + pa * 9, [.string xa.name, Vi xa.kind, Vi xa.ty, Vi xa.src.op, Vi xa.src.k, Vi xa.src.n, .string xa.src.s, .string xa.src.nm, .slice Aa na ca])] h24 a w := hJ1.to (by kernel_rfl) (by kernel_rfl) rfl
          clear hJ1 hF hmono R
          clear gh
          refine rx hJ false 2 [] [] (.ok (.out .ret) [] [(6, .bool true)] [] [(b3, o4 + pa * 9, [.string xa.name, Vi xa.kind, Vi xa.ty, Vi xa.src.op, Vi xa.src.k, Vi xa.src.n, .string xa.src.s, .string xa.src.nm, .slice Aa na ca]), (b3, o4 + pb * 9, [.string xb.name, Vi xb.kind, Vi xb.ty, Vi xb.src.op, Vi xb.src.k, Vi xb.src.n, .string xb.src.s, .string xb.src.nm, .slice Ab nb cb]), (b3, o4 + pb * 9, [.string xb.name, Vi xb.kind, Vi xb.ty, Vi xb.src.op, Vi xb.src.k, Vi xb.src.n, .string xb.src.s, .string xb.src.nm, .slice Ab nb cb]), (b3, o4 + pb * 9, [.string xb.name, Vi xb.kind, Vi xb.ty, Vi xb.src.op, Vi xb.src.k, Vi xb.src.n, .string xb.src.s, .string xb.src.nm, .slice Ab nb cb]), (b3, o4 + pa * 9, [.string xa.name, Vi xa.kind, Vi xa.ty, Vi xa.src.op, Vi xa.src.k, Vi xa.src.n, .string xa.src.s, .string xa.src.nm, .slice Aa na ca])]) trivial trivial (fun _ => by kernel_rfl) ?_
          clear hJ a w; intro a w hJ
          refine x_end (hQ [.bool true] _ [] hJ (.rtmp hJ.j (by kernel_rfl) .nil) (no_own _) rfl ?_).1
          exact rfl
        · skip
          rw [q2] at hHg
          refine x_false hJ (t := decide ((k : Int) < (ys.length : Int))) (by kernel_rfl) (decide_eq_false (by omega)) ?_
          refine rx hJ false 2 [] [] (.ok (.out (.exit 0)) [] [(7, .slice (some ⟨b3, o4, none⟩) N c), (8, Vi (pa : Int)), (9, Vi (pb : Int)), (10, .slice Ax xs.length cx), (66, .slice Ay ys.length cy), (67, Vi (ys.length : Int)), (68, Vi (k : Int)), (69, .bool (decide ((k : Int) < (ys.length : Int))))] [] [(b3, o4 + pb * 9, [.string xb.name, Vi xb.kind, Vi xb.ty, Vi xb.src.op, Vi xb.src.k, Vi xb.src.n, .string xb.src.s, .string xb.src.nm, .slice Ab nb cb]), (b3, o4 + pa * 9, [.string xa.name, Vi xa.kind, Vi xa.ty, Vi xa.src.op, Vi xa.src.k, Vi xa.src.n, .string xa.src.s, .string xa.src.nm, .slice Aa na ca])]) trivial trivial (fun _ => by kernel_rfl) ?_
          clear hJ a w; intro a w hJ
          refine x_leave rfl ?_
          refine rx hJ false 3 [] [] (.ok (.code [0, 1, 1, 1, 1, 1, 1, 1]) [.seq [1, 1, 1, 1, 1, 1, 1, 1]] [(7, .slice (some ⟨b3, o4, none⟩) N c), (8, Vi (pa : Int)), (9, Vi (pb : Int)), (10, .slice Ax xs.length cx)] [] [(b3, o4 + pb * 9, [.string xb.name, Vi xb.kind, Vi xb.ty, Vi xb.src.op, Vi xb.src.k, Vi xb.src.n, .string xb.src.s, .string xb.src.nm, .slice Ab nb cb]), (b3, o4 + pa * 9, [.string xa.name, Vi xa.kind, Vi xa.ty, Vi xa.src.op, Vi xa.src.k, Vi xa.src.n, .string xa.src.s, .string xa.src.nm, .slice Aa na ca])]) trivial trivial (fun _ => by kernel_rfl) ?_
          clear hJ a w; intro a w hJ
          have c26 := RS.cell hr3 (hrob)
          replace hJ := hJ.fact (c26.sees (s7.trans (s10.trans s12)))
          have c27 := RS.cell hr3 (hrob)
          replace hJ := hJ.fact (c27.sees (s7.trans (s10.trans s12)))
          have c28 := RS.cell hr3 (hrow)
          replace hJ := hJ.fact (c28.sees (s7.trans (s10.trans s12)))
          let R : Reg := ⟨⟨102, h.w, h.bad, []⟩, [(0, 77, fun gh => .slice (some ⟨b3, o4, none⟩) N c), (1, 78, fun gh => Vi (pb : Int)), (2, 79, fun gh => .pointer (some ⟨b3, o4 + pb * 9, none⟩)), (3, 80, fun gh => .pointer (some ⟨b3, o4 + pb * 9 + 1, none⟩)), (4, 81, fun gh => Vi xb.kind), (5, 82, fun gh => .bool false), (6, 83, fun gh => .bool false), (7, 84, fun gh => .slice (some ⟨b3, o4, none⟩) N c), (8, 85, fun gh => Vi (pb : Int)), (9, 86, fun gh => .pointer (some ⟨b3, o4 + pb * 9, none⟩)), (10, 87, fun gh => .pointer (some ⟨b3, o4 + pb * 9 + 3, none⟩)), (11, 88, fun gh => .agg #[Vi xb.src.op, Vi xb.src.k, Vi xb.src.n, .string xb.src.s, .string xb.src.nm, .slice Ab nb cb]), (12, 89, fun gh => .slice (some ⟨b3, o4, none⟩) N c), (13, 90, fun gh => Vi (pa : Int)), (14, 91, fun gh => .pointer (some ⟨b3, o4 + pa * 9, none⟩)), (15, 92, fun gh => .pointer (some ⟨b3, o4 + pa * 9, none⟩)), (16, 93, fun gh => .string xa.name), (17, 94, fun gh => .bool false), (18, 95, fun gh => .bool true), (19, 96, fun gh => .bool true), (20, 97, fun gh => .bool true), (21, 98, fun gh => undef), (22, 99, fun gh => undef), (23, 100, fun gh => undef), (24, 101, fun gh => .bool true), (25, 6, fun gh => .bool true)], [(7, .slice (some ⟨b3, o4, none⟩) N c), (8, Vi (pa : Int)), (9, Vi (pb : Int)), (10, .slice Ax xs.length cx)], [], [], [[], [], [0, 1], [0, 1, 2], [0, 1, 2, 3], [0, 1, 2, 3, 4], [0, 1, 2, 3, 4, 5], [0, 1, 2, 3, 4, 5, 6], [0, 1, 2, 3, 4, 5, 6], [0, 1, 2, 3, 4, 5, 6, 7, 8], [0, 1, 2, 3, 4, 5, 6, 7, 8, 9], [0, 1, 2, 3, 4, 5, 6, 7, 8, 9, 10], [0, 1, 2, 3, 4, 5, 6], [0, 1, 2, 3, 4, 5, 6], [0, 1, 2, 3, 4, 5, 6, 12, 13], [0, 1, 2, 3, 4, 5, 6, 12, 13, 14], [0, 1, 2, 3, 4, 5, 6, 12, 13, 14, 15], [0, 1, 2, 3, 4, 5, 6, 7, 8, 9, 10, 11, 12, 13, 14, 15, 16], [0, 1, 2, 3, 4, 5, 6, 7, 8, 9, 10, 11, 12, 13, 14, 15, 16, 17], [0, 1, 2, 3, 4, 5, 6, 7, 8, 9, 10, 11, 12, 13, 14, 15, 16, 17, 18], [0, 1, 2, 3, 4, 5, 6, 7, 8, 9, 10, 11, 12, 13, 14, 15, 16, 17, 18, 19], [0, 1, 2, 3, 4, 5, 6, 7, 8, 9, 10, 11, 12, 13, 14, 15, 16, 17, 18, 19, 20], [0, 1, 2, 3, 4, 5, 6, 7, 8, 9, 10, 11, 12, 13, 14, 15, 16, 17, 18, 19, 20], [0, 1, 2, 3, 4, 5, 6, 7, 8, 9, 10, 11, 12, 13, 14, 15, 16, 17, 18, 19, 20, 21, 22], [0, 1, 2, 3, 4, 5, 6, 7, 8, 9, 10, 11, 12, 13, 14, 15, 16, 17, 18, 19, 20, 21, 22, 23], [0, 1, 2, 3, 4, 5, 6, 7, 8, 9, 10, 11, 12, 13, 14, 15, 16, 17, 18, 19, 20, 21, 22, 23, 24]], h11⟩
          have hmono : ∀ zq ∈ R.F, ∀ zx zh zi, Sees zh zi → zq.2 zx zh → zq.2 zx zi := mono_nil
          refine x_region (by kernel_rfl) R hJ 26 [.pu, .pu, .cl, .pu, .lf 1 1, .cl, .pu, .pu, .pu, .cl, .pu, .lf 1 3, .pu, .pu, .cl, .pu, .lf 0 0, .cl, .pu, .pu, .pu, .ps, .ps, .ps, .pu, .pu] (by kernel_rfl) hmono (fun _ _ _ => by kernel_rfl) (fun hT hA => ?_) ?_
          · clear hJ
            refine And.intro (r_pure hT hA 79 (fun gh => .pointer (some ⟨b3, o4 + pb * 9, none⟩)) [0, 1] 2 (by kernel_rfl) (by kernel_rfl) (by kernel_rfl) (fun _ => by kernel_rfl) (fun gh w => run_indexAddr (t := 30) (x := (.tmp 77)) (y := (.tmp 78)) (b := b3) (off := o4) (n := N) (cap := c) (k := pb) (e := 40) (kk := 9) (by kernel_rfl) (by kernel_rfl) (by kernel_rfl) (by first | omega | (simp; omega)) Try.underlying30 (by kernel_rfl))) ?_
            refine And.intro (r_pure hT hA 82 (fun gh => .bool false) [4] 5 (by kernel_rfl) (by kernel_rfl) (by kernel_rfl) (fun _ => by kernel_rfl) (fun gh w => run_eq (v0 := .bool (xb.kind == 1)) (by kernel_rfl) (congrArg Value.bool (beq_eq_false_iff_ne.2 g1)))) ?_
            refine And.intro (r_pure hT hA 86 (fun gh => .pointer (some ⟨b3, o4 + pb * 9, none⟩)) [6, 7, 8] 9 (by kernel_rfl) (by kernel_rfl) (by kernel_rfl) (fun _ => by kernel_rfl) (fun gh w => run_indexAddr (t := 30) (x := (.tmp 84)) (y := (.tmp 85)) (b := b3) (off := o4) (n := N) (cap := c) (k := pb) (e := 40) (kk := 9) (by kernel_rfl) (by kernel_rfl) (by kernel_rfl) (by first | omega | (simp; omega)) Try.underlying30 (by kernel_rfl))) ?_
            refine And.intro (r_pure hT hA 91 (fun gh => .pointer (some ⟨b3, o4 + pa * 9, none⟩)) [6, 12, 13] 14 (by kernel_rfl) (by kernel_rfl) (by kernel_rfl) (fun _ => by kernel_rfl) (fun gh w => run_indexAddr (t := 30) (x := (.tmp 89)) (y := (.tmp 90)) (b := b3) (off := o4) (n := N) (cap := c) (k := pa) (e := 40) (kk := 9) (by kernel_rfl) (by kernel_rfl) (by kernel_rfl) (by first | omega | (simp; omega)) Try.underlying30 (by kernel_rfl))) ?_
            refine And.intro (r_callv hT hA hmono 94 (fun gh => .bool false) [6, 11, 16] 17 (by kernel_rfl) (by kernel_rfl) (by kernel_rfl) (fun _ => by kernel_rfl) 23 (fun gh => #[.agg #[Vi xb.src.op, Vi xb.src.k, Vi xb.src.n, .string xb.src.s, .string xb.src.nm, .slice Ab nb cb], .string xa.name]) (fun _ _ => by kernel_rfl) (fun gh H sH fH lent => hHg _ _ (hzb.sees (s7.trans (s10.trans (s12.trans sH)))))) ?_
            trivial
          clear hJ a w; intro gh h29 a w sR hJ1 hF; have s30 : Sees h11 h29 := sR; clear sR
          have hJ : K ⟨102, h.w, h.bad, []⟩ [(6, .bool true)] [] [(b3, o4 + pa * 9, [.string xa.name, Vi xa.kind, Vi xa.ty, Vi xa.src.op, Vi xa.src.k, Vi xa.src.n, .string xa.src.s, .string xa.src.nm, .slice Aa na ca]), (b3, o4 + pb * 9, [.string xb.name, Vi xb.kind, Vi xb.ty, Vi xb.src.op, Vi xb.src.k, Vi xb.src.n, .string xb.src.s, .string xb.src.nm, .slice Ab nb cb]), (b3, o4 + pb * 9, [.string xb.name, Vi xb.kind, Vi xb.ty, Vi xb.src.op, Vi xb.src.k, Vi xb.src.n, .string xb.src.s, .string xb.src.nm, .slice Ab nb cb]), (b3, o4 + pb * 9, [.string xb.name, Vi xb.kind, Vi xb.ty, Vi xb.src.op, Vi xb.src.k, Vi xb.src.n, .string xb.src.s, .string xb.src.nm, .slice Ab nb cb]), (b3, o4 + pa * 9, [.string xa.name, Vi xa.kind, Vi xa.ty, Vi xa.src.op, Vi xa.src.k, Vi xa.src.n, .string xa.src.s, .string xa.src.nm, .slice Aa na ca])] h29 a w := hJ1.to (by kernel_rfl) (by kernel_rfl) rfl
          clear hJ1 hF hmono R
          clear gh
          refine rx hJ false 2 [] [] (.ok (.out .ret) [] [(6, .bool true)] [] [(b3, o4 + pa * 9, [.string xa.name, Vi xa.kind, Vi xa.ty, Vi xa.src.op, Vi xa.src.k, Vi xa.src.n, .string xa.src.s, .string xa.src.nm, .slice Aa na ca]), (b3, o4 + pb * 9, [.string xb.name, Vi xb.kind, Vi xb.ty, Vi xb.src.op, Vi xb.src.k, Vi xb.src.n, .string xb.src.s, .string xb.src.nm, .slice Ab nb cb]), (b3, o4 + pb * 9, [.string xb.name, Vi xb.kind, Vi xb.ty, Vi xb.src.op, Vi xb.src.k, Vi xb.src.n, .string xb.src.s, .string xb.src.nm, .slice Ab nb cb]), (b3, o4 + pb * 9, [.string xb.name, Vi xb.kind, Vi xb.ty, Vi xb.src.op, Vi xb.src.k, Vi xb.src.n, .string xb.src.s, .string xb.src.nm, .slice Ab nb cb]), (b3, o4 + pa * 9, [.string xa.name, Vi xa.kind, Vi xa.ty, Vi xa.src.op, Vi xa.src.k, Vi xa.src.n, .string xa.src.s, .string xa.src.nm, .slice Aa na ca])]) trivial trivial (fun _ => by kernel_rfl) ?_
          clear hJ a w; intro a w hJ
          refine x_end (hQ [.bool true] _ [] hJ (.rtmp hJ.j (by kernel_rfl) .nil) (no_own _) rfl ?_).1
          exact rfl
  · skip
    by_cases g1 : xb.kind = 1
    · skip
      refine x_false hJ (t := decide (pb ∈ xs)) (by kernel_rfl) (decide_eq_false hb) ?_
      refine rx hJ false 3 [] [] (.ok (.code [0, 1, 1, 1, 1, 1, 1, 1]) [.seq [1, 1, 1, 1, 1, 1, 1, 1]] [(6, .bool false), (7, .slice (some ⟨b3, o4, none⟩) N c), (8, Vi (pa : Int)), (9, Vi (pb : Int)), (10, .slice Ax xs.length cx)] [] [(b3, o4 + pb * 9, [.string xb.name, Vi xb.kind, Vi xb.ty, Vi xb.src.op, Vi xb.src.k, Vi xb.src.n, .string xb.src.s, .string xb.src.nm, .slice Ab nb cb]), (b3, o4 + pa * 9, [.string xa.name, Vi xa.kind, Vi xa.ty, Vi xa.src.op, Vi xa.src.k, Vi xa.src.n, .string xa.src.s, .string xa.src.nm, .slice Aa na ca])]) trivial trivial (fun _ => by kernel_rfl) ?_
      clear hJ a w; intro a w hJ
      have c31 := RS.cell hr3 (hrob)
      replace hJ := hJ.fact (c31.sees (s7.trans s10))
      have c32 := RS.cell hr3 (hrob)
      replace hJ := hJ.fact (c32.sees (s7.trans s10))
      have c33 := RS.cell hr3 (hrow)
      replace hJ := hJ.fact (c33.sees (s7.trans s10))
      let R : Reg := ⟨⟨102, h.w, h.bad, []⟩, [(0, 77, fun gh => .slice (some ⟨b3, o4, none⟩) N c), (1, 78, fun gh => Vi (pb : Int)), (2, 79, fun gh => .pointer (some ⟨b3, o4 + pb * 9, none⟩)), (3, 80, fun gh => .pointer (some ⟨b3, o4 + pb * 9 + 1, none⟩)), (4, 81, fun gh => Vi xb.kind), (5, 82, fun gh => .bool true), (6, 83, fun gh => .bool true), (7, 84, fun gh => undef), (8, 85, fun gh => undef), (9, 86, fun gh => undef), (10, 87, fun gh => undef), (11, 88, fun gh => undef), (12, 89, fun gh => undef), (13, 90, fun gh => undef), (14, 91, fun gh => undef), (15, 92, fun gh => undef), (16, 93, fun gh => undef), (17, 94, fun gh => undef), (18, 95, fun gh => undef), (19, 96, fun gh => .bool true), (20, 97, fun gh => .bool true), (21, 98, fun gh => undef), (22, 99, fun gh => undef), (23, 100, fun gh => undef), (24, 101, fun gh => .bool true), (25, 6, fun gh => .bool true)], [(6, .bool false), (7, .slice (some ⟨b3, o4, none⟩) N c), (8, Vi (pa : Int)), (9, Vi (pb : Int)), (10, .slice Ax xs.length cx)], [], [], [[], [], [0, 1], [0, 1, 2], [0, 1, 2, 3], [0, 1, 2, 3, 4], [0, 1, 2, 3, 4, 5], [0, 1, 2, 3, 4, 5, 6], [0, 1, 2, 3, 4, 5, 6], [0, 1, 2, 3, 4, 5, 6, 7, 8], [0, 1, 2, 3, 4, 5, 6, 7, 8, 9], [0, 1, 2, 3, 4, 5, 6, 7, 8, 9, 10], [0, 1, 2, 3, 4, 5, 6], [0, 1, 2, 3, 4, 5, 6], [0, 1, 2, 3, 4, 5, 6, 12, 13], [0, 1, 2, 3, 4, 5, 6, 12, 13, 14], [0, 1, 2, 3, 4, 5, 6, 12, 13, 14, 15], [0, 1, 2, 3, 4, 5, 6, 7, 8, 9, 10, 11, 12, 13, 14, 15, 16], [0, 1, 2, 3, 4, 5, 6, 7, 8, 9, 10, 11, 12, 13, 14, 15, 16, 17], [0, 1, 2, 3, 4, 5, 6, 7, 8, 9, 10, 11, 12, 13, 14, 15, 16, 17, 18], [0, 1, 2, 3, 4, 5, 6, 7, 8, 9, 10, 11, 12, 13, 14, 15, 16, 17, 18, 19], [0, 1, 2, 3, 4, 5, 6, 7, 8, 9, 10, 11, 12, 13, 14, 15, 16, 17, 18, 19, 20], [0, 1, 2, 3, 4, 5, 6, 7, 8, 9, 10, 11, 12, 13, 14, 15, 16, 17, 18, 19, 20], [0, 1, 2, 3, 4, 5, 6, 7, 8, 9, 10, 11, 12, 13, 14, 15, 16, 17, 18, 19, 20, 21, 22], [0, 1, 2, 3, 4, 5, 6, 7, 8, 9, 10, 11, 12, 13, 14, 15, 16, 17, 18, 19, 20, 21, 22, 23], [0, 1, 2, 3, 4, 5, 6, 7, 8, 9, 10, 11, 12, 13, 14, 15, 16, 17, 18, 19, 20, 21, 22, 23, 24]], h9⟩
      have hmono : ∀ zq ∈ R.F, ∀ zx zh zi, Sees zh zi → zq.2 zx zh → zq.2 zx zi := mono_nil
      refine x_region (by kernel_rfl) R hJ 26 [.pu, .pu, .cl, .pu, .lf 1 1, .cl, .pu, .ps, .ps, .ps, .ps, .ps, .ps, .ps, .ps, .ps, .ps, .ps, .ps, .pu, .pu, .ps, .ps, .ps, .pu, .pu] (by kernel_rfl) hmono (fun _ _ _ => by kernel_rfl) (fun hT hA => ?_) ?_
      · clear hJ
        refine And.intro (r_pure hT hA 79 (fun gh => .pointer (some ⟨b3, o4 + pb * 9, none⟩)) [0, 1] 2 (by kernel_rfl) (by kernel_rfl) (by kernel_rfl) (fun _ => by kernel_rfl) (fun gh w => run_indexAddr (t := 30) (x := (.tmp 77)) (y := (.tmp 78)) (b := b3) (off := o4) (n := N) (cap := c) (k := pb) (e := 40) (kk := 9) (by kernel_rfl) (by kernel_rfl) (by kernel_rfl) (by first | omega | (simp; omega)) Try.underlying30 (by kernel_rfl))) ?_
        refine And.intro (r_pure hT hA 82 (fun gh => .bool true) [4] 5 (by kernel_rfl) (by kernel_rfl) (by kernel_rfl) (fun _ => by kernel_rfl) (fun gh w => run_eq (v0 := .bool (xb.kind == 1)) (by kernel_rfl) (congrArg Value.bool (beq_iff_eq.2 g1)))) ?_
        trivial
      clear hJ a w; intro gh h34 a w sR hJ1 hF; have s35 : Sees h9 h34 := sR; clear sR
      have hJ : K ⟨102, h.w, h.bad, []⟩ [(6, .bool true)] [] [(b3, o4 + pa * 9, [.string xa.name, Vi xa.kind, Vi xa.ty, Vi xa.src.op, Vi xa.src.k, Vi xa.src.n, .string xa.src.s, .string xa.src.nm, .slice Aa na ca]), (b3, o4 + pb * 9, [.string xb.name, Vi xb.kind, Vi xb.ty, Vi xb.src.op, Vi xb.src.k, Vi xb.src.n, .string xb.src.s, .string xb.src.nm, .slice Ab nb cb]), (b3, o4 + pb * 9, [.string xb.name, Vi xb.kind, Vi xb.ty, Vi xb.src.op, Vi xb.src.k, Vi xb.src.n, .string xb.src.s, .string xb.src.nm, .slice Ab nb cb]), (b3, o4 + pb * 9, [.string xb.name, Vi xb.kind, Vi xb.ty, Vi xb.src.op, Vi xb.src.k, Vi xb.src.n, .string xb.src.s, .string xb.src.nm, .slice Ab nb cb]), (b3, o4 + pa * 9, [.string xa.name, Vi xa.kind, Vi xa.ty, Vi xa.src.op, Vi xa.src.k, Vi xa.src.n, .string xa.src.s, .string xa.src.nm, .slice Aa na ca])] h34 a w := hJ1.to (by kernel_rfl) (by kernel_rfl) rfl
      clear hJ1 hF hmono R
      clear gh
      refine rx hJ false 2 [] [] (.ok (.out .ret) [] [(6, .bool true)] [] [(b3, o4 + pa * 9, [.string xa.name, Vi xa.kind, Vi xa.ty, Vi xa.src.op, Vi xa.src.k, Vi xa.src.n, .string xa.src.s, .string xa.src.nm, .slice Aa na ca]), (b3, o4 + pb * 9, [.string xb.name, Vi xb.kind, Vi xb.ty, Vi xb.src.op, Vi xb.src.k, Vi xb.src.n, .string xb.src.s, .string xb.src.nm, .slice Ab nb cb]), (b3, o4 + pb * 9, [.string xb.name, Vi xb.kind, Vi xb.ty, Vi xb.src.op, Vi xb.src.k, Vi xb.src.n, .string xb.src.s, .string xb.src.nm, .slice Ab nb cb]), (b3, o4 + pb * 9, [.string xb.name, Vi xb.kind, Vi xb.ty, Vi xb.src.op, Vi xb.src.k, Vi xb.src.n, .string xb.src.s, .string xb.src.nm, .slice Ab nb cb]), (b3, o4 + pa * 9, [.string xa.name, Vi xa.kind, Vi xa.ty, Vi xa.src.op, Vi xa.src.k, Vi xa.src.n, .string xa.src.s, .string xa.src.nm, .slice Aa na ca])]) trivial trivial (fun _ => by kernel_rfl) ?_
      clear hJ a w; intro a w hJ
      refine x_end (hQ [.bool true] _ [] hJ (.rtmp hJ.j (by kernel_rfl) .nil) (no_own _) rfl ?_).1
      exact rfl
    · skip
      have hHg := fun H v q => hHx g1 H v q xa.name
      rcases Bool.eq_false_or_eq_true (hasE xb.src xa.name) with q2 | q2
      · skip
        exact absurd (hask g1 q2) hb
      · skip
        rw [q2] at hHg
        refine x_false hJ (t := decide (pb ∈ xs)) (by kernel_rfl) (decide_eq_false hb) ?_
        refine rx hJ false 3 [] [] (.ok (.code [0, 1, 1, 1, 1, 1, 1, 1]) [.seq [1, 1, 1, 1, 1, 1, 1, 1]] [(6, .bool false), (7, .slice (some ⟨b3, o4, none⟩) N c), (8, Vi (pa : Int)), (9, Vi (pb : Int)), (10, .slice Ax xs.length cx)] [] [(b3, o4 + pb * 9, [.string xb.name, Vi xb.kind, Vi xb.ty, Vi xb.src.op, Vi xb.src.k, Vi xb.src.n, .string xb.src.s, .string xb.src.nm, .slice Ab nb cb]), (b3, o4 + pa * 9, [.string xa.name, Vi xa.kind, Vi xa.ty, Vi xa.src.op, Vi xa.src.k, Vi xa.src.n, .string xa.src.s, .string xa.src.nm, .slice Aa na ca])]) trivial trivial (fun _ => by kernel_rfl) ?_
        clear hJ a w; intro a w hJ
        have c36 := RS.cell hr3 (hrob)
        replace hJ := hJ.fact (c36.sees (s7.trans s10))
        have c37 := RS.cell hr3 (hrob)
        replace hJ := hJ.fact (c37.sees (s7.trans s10))
        have c38 := RS.cell hr3 (hrow)
        replace hJ := hJ.fact (c38.sees (s7.trans s10))
        let R : Reg := ⟨⟨102, h.w, h.bad, []⟩, [(0, 77, fun gh => .slice (some ⟨b3, o4, none⟩) N c), (1, 78, fun gh => Vi (pb : Int)), (2, 79, fun gh => .pointer (some ⟨b3, o4 + pb * 9, none⟩)), (3, 80, fun gh => .pointer (some ⟨b3, o4 + pb * 9 + 1, none⟩)), (4, 81, fun gh => Vi xb.kind), (5, 82, fun gh => .bool false), (6, 83, fun gh => .bool false), (7, 84, fun gh => .slice (some ⟨b3, o4, none⟩) N c), (8, 85, fun gh => Vi (pb : Int)), (9, 86, fun gh => .pointer (some ⟨b3, o4 + pb * 9, none⟩)), (10, 87, fun gh => .pointer (some ⟨b3, o4 + pb * 9 + 3, none⟩)), (11, 88, fun gh => .agg #[Vi xb.src.op, Vi xb.src.k, Vi xb.src.n, .string xb.src.s, .string xb.src.nm, .slice Ab nb cb]), (12, 89, fun gh => .slice (some ⟨b3, o4, none⟩) N c), (13, 90, fun gh => Vi (pa : Int)), (14, 91, fun gh => .pointer (some ⟨b3, o4 + pa * 9, none⟩)), (15, 92, fun gh => .pointer (some ⟨b3, o4 + pa * 9, none⟩)), (16, 93, fun gh => .string xa.name), (17, 94, fun gh => .bool false), (18, 95, fun gh => .bool true), (19, 96, fun gh => .bool true), (20, 97, fun gh => .bool true), (21, 98, fun gh => undef), (22, 99, fun gh => undef), (23, 100, fun gh => undef), (24, 101, fun gh => .bool true), (25, 6, fun gh => .bool true)], [(6, .bool false), (7, .slice (some ⟨b3, o4, none⟩) N c), (8, Vi (pa : Int)), (9, Vi (pb : Int)), (10, .slice Ax xs.length cx)], [], [], [[], [], [0, 1], [0, 1, 2], [0, 1, 2, 3], [0, 1, 2, 3, 4], [0, 1, 2, 3, 4, 5], [0, 1, 2, 3, 4, 5, 6], [0, 1, 2, 3, 4, 5, 6], [0, 1, 2, 3, 4, 5, 6, 7, 8], [0, 1, 2, 3, 4, 5, 6, 7, 8, 9], [0, 1, 2, 3, 4, 5, 6, 7, 8, 9, 10], [0, 1, 2, 3, 4, 5, 6], [0, 1, 2, 3, 4, 5, 6], [0, 1, 2, 3, 4, 5, 6, 12, 13], [0, 1, 2, 3, 4, 5, 6, 12, 13, 14], [0, 1, 2, 3, 4, 5, 6, 12, 13, 14, 15], [0, 1, 2, 3, 4, 5, 6, 7, 8, 9, 10, 11, 12, 13, 14, 15, 16], [0, 1, 2, 3, 4, 5, 6, 7, 8, 9, 10, 11, 12, 13, 14, 15, 16, 17], [0, 1, 2, 3, 4, 5, 6, 7, 8, 9, 10, 11, 12, 13, 14, 15, 16, 17, 18], [0, 1, 2, 3, 4, 5, 6, 7, 8, 9, 10, 11, 12, 13, 14, 15, 16, 17, 18, 19], [0, 1, 2, 3, 4, 5, 6, 7, 8, 9, 10, 11, 12, 13, 14, 15, 16, 17, 18, 19, 20], [0, 1, 2, 3, 4, 5, 6, 7, 8, 9, 10, 11, 12, 13, 14, 15, 16, 17, 18, 19, 20], [0, 1, 2, 3, 4, 5, 6, 7, 8, 9, 10, 11, 12, 13, 14, 15, 16, 17, 18, 19, 20, 21, 22], [0, 1, 2, 3, 4, 5, 6, 7, 8, 9, 10, 11, 12, 13, 14, 15, 16, 17, 18, 19, 20, 21, 22, 23], [0, 1, 2, 3, 4, 5, 6, 7, 8, 9, 10, 11, 12, 13, 14, 15, 16, 17, 18, 19, 20, 21, 22, 23, 24]], h9⟩
        have hmono : ∀ zq ∈ R.F, ∀ zx zh zi, Sees zh zi → zq.2 zx zh → zq.2 zx zi := mono_nil
        refine x_region (by kernel_rfl) R hJ 26 [.pu, .pu, .cl, .pu, .lf 1 1, .cl, .pu, .pu, .pu, .cl, .pu, .lf 1 3, .pu, .pu, .cl, .pu, .lf 0 0, .cl, .pu, .pu, .pu, .ps, .ps, .ps, .pu, .pu] (by kernel_rfl) hmono (fun _ _ _ => by kernel_rfl) (fun hT hA => ?_) ?_
        · clear hJ
          refine And.intro (r_pure hT hA 79 (fun gh => .pointer (some ⟨b3, o4 + pb * 9, none⟩)) [0, 1] 2 (by kernel_rfl) (by kernel_rfl) (by kernel_rfl) (fun _ => by kernel_rfl) (fun gh w => run_indexAddr (t := 30) (x := (.tmp 77)) (y := (.tmp 78)) (b := b3) (off := o4) (n := N) (cap := c) (k := pb) (e := 40) (kk := 9) (by kernel_rfl) (by kernel_rfl) (by kernel_rfl) (by first | omega | (simp; omega)) Try.underlying30 (by kernel_rfl))) ?_
          refine And.intro (r_pure hT hA 82 (fun gh => .bool false) [4] 5 (by kernel_rfl) (by kernel_rfl) (by kernel_rfl) (fun _ => by kernel_rfl) (fun gh w => run_eq (v0 := .bool (xb.kind == 1)) (by kernel_rfl) (congrArg Value.bool (beq_eq_false_iff_ne.2 g1)))) ?_
          refine And.intro (r_pure hT hA 86 (fun gh => .pointer (some ⟨b3, o4 + pb * 9, none⟩)) [6, 7, 8] 9 (by kernel_rfl) (by kernel_rfl) (by kernel_rfl) (fun _ => by kernel_rfl) (fun gh w => run_indexAddr (t := 30) (x := (.tmp 84)) (y := (.tmp 85)) (b := b3) (off := o4) (n := N) (cap := c) (k := pb) (e := 40) (kk := 9) (by kernel_rfl) (by kernel_rfl) (by kernel_rfl) (by first | omega | (simp; omega)) Try.underlying30 (by kernel_rfl))) ?_
          refine And.intro (r_pure hT hA 91 (fun gh => .pointer (some ⟨b3, o4 + pa * 9, none⟩)) [6, 12, 13] 14 (by kernel_rfl) (by kernel_rfl) (by kernel_rfl) (fun _ => by kernel_rfl) (fun gh w => run_indexAddr (t := 30) (x := (.tmp 89)) (y := (.tmp 90)) (b := b3) (off := o4) (n := N) (cap := c) (k := pa) (e := 40) (kk := 9) (by kernel_rfl) (by kernel_rfl) (by kernel_rfl) (by first | omega | (simp; omega)) Try.underlying30 (by kernel_rfl))) ?_
          refine And.intro (r_callv hT hA hmono 94 (fun gh => .bool false) [6, 11, 16] 17 (by kernel_rfl) (by kernel_rfl) (by kernel_rfl) (fun _ => by kernel_rfl) 23 (fun gh => #[.agg #[Vi xb.src.op, Vi xb.src.k, Vi xb.src.n, .string xb.src.s, .string xb.src.nm, .slice Ab nb cb], .string xa.name]) (fun _ _ => by kernel_rfl) (fun gh H sH fH lent => hHg _ _ (hzb.sees (s7.trans (s10.trans sH))))) ?_
          trivial
        clear hJ a w; intro gh h39 a w sR hJ1 hF; have s40 : Sees h9 h39 := sR; clear sR
        have hJ : K ⟨102, h.w, h.bad, []⟩ [(6, .bool true)] [] [(b3, o4 + pa * 9, [.string xa.name, Vi xa.kind, Vi xa.ty, Vi xa.src.op, Vi xa.src.k, Vi xa.src.n, .string xa.src.s, .string xa.src.nm, .slice Aa na ca]), (b3, o4 + pb * 9, [.string xb.name, Vi xb.kind, Vi xb.ty, Vi xb.src.op, Vi xb.src.k, Vi xb.src.n, .string xb.src.s, .string xb.src.nm, .slice Ab nb cb]), (b3, o4 + pb * 9, [.string xb.name, Vi xb.kind, Vi xb.ty, Vi xb.src.op, Vi xb.src.k, Vi xb.src.n, .string xb.src.s, .string xb.src.nm, .slice Ab nb cb]), (b3, o4 + pb * 9, [.string xb.name, Vi xb.kind, Vi xb.ty, Vi xb.src.op, Vi xb.src.k, Vi xb.src.n, .string xb.src.s, .string xb.src.nm, .slice Ab nb cb]), (b3, o4 + pa * 9, [.string xa.name, Vi xa.kind, Vi xa.ty, Vi xa.src.op, Vi xa.src.k, Vi xa.src.n, .string xa.src.s, .string xa.src.nm, .slice Aa na ca])] h39 a w := hJ1.to (by kernel_rfl) (by kernel_rfl) rfl
        clear hJ1 hF hmono R
        clear gh
        refine rx hJ false 2 [] [] (.ok (.out .ret) [] [(6, .bool true)] [] [(b3, o4 + pa * 9, [.string xa.name, Vi xa.kind, Vi xa.ty, Vi xa.src.op, Vi xa.src.k, Vi xa.src.n, .string xa.src.s, .string xa.src.nm, .slice Aa na ca]), (b3, o4 + pb * 9, [.string xb.name, Vi xb.kind, Vi xb.ty, Vi xb.src.op, Vi xb.src.k, Vi xb.src.n, .string xb.src.s, .string xb.src.nm, .slice Ab nb cb]), (b3, o4 + pb * 9, [.string xb.name, Vi xb.kind, Vi xb.ty, Vi xb.src.op, Vi xb.src.k, Vi xb.src.n, .string xb.src.s, .string xb.src.nm, .slice Ab nb cb]), (b3, o4 + pb * 9, [.string xb.name, Vi xb.kind, Vi xb.ty, Vi xb.src.op, Vi xb.src.k, Vi xb.src.n, .string xb.src.s, .string xb.src.nm, .slice Ab nb cb]), (b3, o4 + pa * 9, [.string xa.name, Vi xa.kind, Vi xa.ty, Vi xa.src.op, Vi xa.src.k, Vi xa.src.n, .string xa.src.s, .string xa.src.nm, .slice Aa na ca])]) trivial trivial (fun _ => by kernel_rfl) ?_
        clear hJ a w; intro a w hJ
        refine x_end (hQ [.bool true] _ [] hJ (.rtmp hJ.j (by kernel_rfl) .nil) (no_own _) rfl ?_).1
        exact rfl

theorem rankHangs_walk (v : Value) (l : List RawD) (a b : Int) (w : World) (h : RawsOf w v l) (a0 : -9223372036854775808 ≤ a) (a1 : a ≤ 9223372036854775807) (b0 : -9223372036854775808 ≤ b) (b1 : b ≤ 9223372036854775807) :
    Calls Try.prog 14 #[v, .int .i64 a, .int .i64 b] w fun e w' => e = .returned (.bool true) ∧ Below w.heap.size w w' :=
  C0.law (rankHangs_c l v a b ⟨w, []⟩ h.rs h.2.1 h.2.2 a0 a1 b0 b1)

namespace rankHangsLaw
open Go.ChangeShapes Go.WideShapes Go.ChangeAt Go.RowKit
open Go.ChangeMaps (open_string shut_string)
set_option linter.unusedVariables false

set_option maxRecDepth 100000 in
theorem lifted (os : Os) (started : os.Started) (H : Type) (enc : TypeId × Value → H) :
    ReturnsInHanded {} Try.checked os 14 .any (Rows.rankHangsSpec.pre6 enc Try.prog Try.f14 Rows.rankHangsRow.domain false) (Rows.rankHangsSpec.post enc Try.prog Try.f14 false true false false) := by
  refine returnsInHanded_of_change_sized (C := Try.checked) ownNone started (by kernel_rfl) Try.func14
    (ChangeSpec.witness6 (enc := enc) (C := Try.checked) false ⟨#[], #[.slice none 0 0, .int .i64 0, .int .i64 0], []⟩ 8 (by kernel_rfl) (by kernel_rfl) (by kernel_rfl) (by kernel_rfl)) ?_
  intro W base args ds gs before hval0 hW hcnd hsz0 _
  have hval : ∀ (j : Nat) t v, Try.f14.params[j]? = some t → args[j]? = some v → Value.okWide Try.prog W .any base t v := hval0
  have hsz : (DataW.weightsEach Try.prog (Try.f14.params.toList ++ Rows.rankHangsSpec.plain.varTypes Try.prog) (ds ++ gs)).all (· ≤ reachBytes) = true := hsz0
  have hW' := hW
  obtain ⟨p, q, hA0, hV, rfl, hfz, hnd⟩ := hW
  have hA : DataW.TrodAll enc Try.prog W 0 (fun _ => true) true Try.f14.params.toList args.toList ds p := hA0
  rw [Try.params14] at hA hval hsz
  obtain ⟨v0, vs0, d0, ds0, p0, q0, hargs, rfl, rfl, h0, r0⟩ := trodAll_cons hA
  obtain ⟨v1, vs1, d1, ds1, p1, q1, rfl, rfl, rfl, h1, r1⟩ := trodAll_cons r0
  obtain ⟨v2, vs2, d2, ds2, p2, q2, rfl, rfl, rfl, h2, r2⟩ := trodAll_cons r1
  obtain ⟨rfl, rfl, rfl⟩ := trodAll_nil r2
  obtain rfl : args = #[v0, v1, v2] := by cases args; simp_all
  obtain ⟨rfl, rfl⟩ := trodVars_none hV
  have k0 := h0
  have lt0 : ∀ x ∈ p0, x.block < W.heap.size := by obtain ⟨m, hm⟩ := k0; exact DataW.trod_lt m _ _ _ hm
  obtain ⟨a0, w0⟩ := open_rows (hval 0 22 v0 rfl rfl) h0 (fun es ss hd => sized_slice hsz (j := 0) (t := 22) (elems := es) (spare := ss) rfl (by rw [hd]; rfl) Try.underlying22)
  have k1 := h1
  have lt1 : ∀ x ∈ p1, x.block < W.heap.size := by obtain ⟨m, hm⟩ := k1; exact DataW.trod_lt m _ _ _ hm
  obtain ⟨a1, rfl, -, -, w1⟩ := open_int Try.underlying3 (hval 1 3 v1 rfl rfl) h1
  have k2 := h2
  have lt2 : ∀ x ∈ p2, x.block < W.heap.size := by obtain ⟨m, hm⟩ := k2; exact DataW.trod_lt m _ _ _ hm
  obtain ⟨a2, rfl, -, -, w2⟩ := open_int Try.underlying3 (hval 2 3 v2 rfl rfl) h2
  clear hA0 hval0 hsz0
  refine (rankHangs_walk v0 a0 a1 a2 W w0 (int_lo w1) (int_hi w1) (int_lo w2) (int_hi w2)).mono fun e W' ⟨he, bel⟩ => ?_
  subst he
  exact ⟨_, rfl, _, _, _, [], _, [], hW', trodAll_mk1 (shut_bool Try.underlying4 _), (trodAll_cons_mk (Below.trod laidOutTrue (by kernel_rfl) (of_decide_eq_true (by kernel_rfl)) k0 bel lt0) (trodAll_cons_mk (Below.trod laidOutTrue (by kernel_rfl) (of_decide_eq_true (by kernel_rfl)) k1 bel lt1) (trodAll_cons_mk (Below.trod laidOutTrue (by kernel_rfl) (of_decide_eq_true (by kernel_rfl)) k2 bel lt2) trodAll_mk0))), rfl, bel.frame _, fun h => by cases h⟩

theorem over : Rows.rankHangsRow.holds Try.pinned (OpenSpec.ofChange Rows.rankHangsSpec) :=
  OpenClaim.holds_of_wide 14 Try.f14 rfl rfl rfl rfl rfl rfl rfl ⟨rfl, rfl, rfl, rfl, rfl⟩ rfl rfl rfl rfl rfl (by kernel_rfl) Try.func14 (by kernel_rfl)
    (of_decide_eq_true (by kernel_rfl)) (by unfold Func.isWrapper; first | (rw [if_pos (by decide +kernel)]; kernel_rfl) | (rw [if_neg (by decide +kernel)]; exact ⟨rfl, rfl⟩))
    (fun os started H enc _ => lifted os started H enc)

end rankHangsLaw
theorem rankHangs_holds : Rows.RankHangsSaid := rankHangsLaw.over
#print axioms rankHangs_holds
end Go.Proofs.Ytgjndkphfabnnaa

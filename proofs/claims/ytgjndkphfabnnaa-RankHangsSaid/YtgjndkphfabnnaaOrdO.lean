/-
  Contract of rank.Order where all fields can be ranked.
-/
import Derived.Test.YtgjndkphfabnnaaOrdS
import Derived.Test.YtgjndkphfabnnaaRnkF
namespace Go.Proofs.Ytgjndkphfabnnaa
open Go.RowKit
set_option linter.unusedVariables false

set_option maxRecDepth 100000 in
theorem order_any (fs : List Fd) (fv : Value) (h : Vw) (hok : OkFs fs) (hfs : IsFds h fv fs) (ρ : List Int) (lv : Nat → Nat) (hρ : Ranked (needsE fs) ρ lv) (h1 : 1 ≤ fs.length) (h2 : fs.length < 20) :
    C0 Try.prog 47 #[fv] h (fun r h' => ∃ A c, r = .tuple #[.slice A fs.length c, .int .i64 0] ∧ RS h' 1 (.slice A fs.length c) (natRows (ordL ρ fs.length))) := by
  have hnl : (needsE fs).length = fs.length := by unfold needsE; rw [List.length_map]
  have hO := fun H q => rankOf_any fs fv H hok q ρ lv hρ
  have hρl : ρ.length = fs.length := hρ.len.trans hnl
  obtain ⟨-, A, c, rfl, -, -, -, -, -, -⟩ := fds_open hfs
  generalize hL : fs.length = n at *
  have hlo : (natRows (List.range n)).length = n := by simp
  refine x_con Try.func47 (c := Try.f47.body.getD .skip) (by kernel_rfl) (N := 32) rfl (by kernel_rfl) ?_
  intro hbx hbad Q hQ a w hJ
  replace hJ : K ⟨32, h.w, h.bad, []⟩ [(0, .slice A n c)] [] [] h a w := hJ.to (by kernel_rfl) (by kernel_rfl) rfl
  refine rx hJ false 9 [] [] (.ok (.ops [0, 1] 1) [.seq [1, 1]] [(0, .slice A n c), (2, Vz), (3, Vi 0), (10, .slice A n c)] [] []) trivial trivial (fun _ => by kernel_rfl) ?_
  clear hJ a w; intro a w hJ
  refine x_call hJ 11 (hO _ (hfs.sees hJ.j.sees)) (fun _ => by kernel_rfl) ?_; clear hJ a w; rintro _ h1 a w s2 ⟨b, rfl, hro⟩ hJ
  refine rx hJ false 34 [.own, .b 0 0] [] (.new fun b3 => .ok (.code [0, 1, 0, 1, 1, 1, 1]) [.block 0, .seq [1, 1, 1, 1, 1]] [(2, Vz), (3, Vi 0), (4, Vp b3), (7, Vz), (19, Vi (n : Int)), (20, Vi 0)] [.box b3 [Vs b n n]] []) trivial trivial (fun b3 _ => by kernel_rfl) ?_
  clear hJ a w; intro b3 a w hJ
  replace hJ := hJ.nilrow 3 1
  refine x_loop (fun (k : Nat) a w => ∃ (h4 : Vw) (v : Value), K ⟨32, h.w, h.bad, []⟩ [(2, Vz), (3, Vi 0), (4, Vp b3), (19, Vi (n : Int)), (20, Vi (k : Int)), (7, v)] [.row v 3 1 (natRows (List.range k)), .box b3 [Vs b n n]] [] h4 a w ∧ Sees h1 h4 ∧ (k ≤ n)) (fun k => n - k) (0) (by kernel_rfl) ⟨h1, (Vz), hJ.to (by kernel_rfl) (by kernel_rfl) rfl, Sees.refl _, Nat.zero_le _⟩ ?_
  clear hJ a w; rintro k a w ⟨h4, v, hJ, s5, hk⟩
  refine rx hJ false 6 [] [] (.ok (.code [0, 1, 0, 0, 1, 0, 1, 1, 1, 1]) [.seq [1, 1, 0, 0, 1, 0, 1, 1, 1, 1]] [(2, Vz), (3, Vi 0), (4, Vp b3), (19, Vi (n : Int)), (20, Vi (k : Int)), (7, v), (21, .bool (decide ((k : Int) < (n : Int))))] [.row v 3 1 (natRows (List.range k)), .box b3 [Vs b n n]] []) trivial trivial (fun _ => by kernel_rfl) ?_
  clear hJ a w; intro a w hJ
  rcases (by omega : k < n ∨ k = n) with hlt | hke
  · skip
    refine x_true hJ (t := decide ((k : Int) < (n : Int))) (by kernel_rfl) (decide_eq_true (by omega)) ?_
    refine rx hJ true 14 [.fix] [] (.new fun b6 => .ok (.ops [1, 0, 0, 1, 1, 0, 0, 1, 0, 1, 1, 1, 1] 3) [.block 1, .seq [1, 1, 1, 0, 0, 1, 0, 1, 1, 1, 1]] [(2, Vz), (3, Vi 0), (4, Vp b3), (19, Vi (n : Int)), (20, Vi (k : Int)), (7, v), (21, .bool (decide ((k : Int) < (n : Int)))), (22, Vi (k : Int)), (8, Vi (k : Int)), (23, v), (24, Vi (k : Int)), (25, Vs b6 1 1)] [.row v 3 1 (natRows (List.range k)), .box b3 [Vs b n n]] [(b6, 0, [Vi (k : Int)])]) trivial trivial (fun b6 _ => by kernel_rfl) ?_
    clear hJ a w; intro b6 h7 a w s8 hJ
    refine rx hJ true 9 [.ap 0 0 (natRows (List.range k)) [[Vi (k : Int)]]] [(27, Vi (IntKind.i64.wrap ((k : Int) + 1)), Vi ((k : Int) + 1))] (.nv fun v26 => .ok (.out .normal) [] [(2, Vz), (3, Vi 0), (4, Vp b3), (19, Vi (n : Int)), (21, .bool (decide ((k : Int) < (n : Int)))), (22, Vi (k : Int)), (8, Vi (k : Int)), (23, v), (24, Vi (k : Int)), (25, Vs b6 1 1), (26, .slice (sA v26) (sN v26) (sC v26)), (7, .slice (sA v26) (sN v26) (sC v26)), (27, Vi ((k : Int) + 1)), (20, Vi ((k : Int) + 1))] [.row (.slice (sA v26) (sN v26) (sC v26)) 3 1 ((natRows (List.range k)) ++ [[Vi (k : Int)]]), .box b3 [Vs b n n]] [(b6, 0, [Vi (k : Int)])]) (And.intro (by simp; omega) (trivial)) (And.intro (i64_wrap (by omega) (by omega)) (trivial)) (fun v26 _ => by kernel_rfl) ?_
    clear hJ a w; intro v26 h9 a w s10 hJ
    exact x_round ⟨k + 1, ⟨h9, .slice (sA v26) (sN v26) (sC v26), (hJ.tof [] (F' := []) (by kernel_rfl)).to (by kernel_rfl) (by rw [List.range_succ, natRows_snoc]) rfl, (s5.trans (s8.trans s10)), by omega⟩, by omega⟩
  · skip
    rw [hke] at hJ
    refine x_false hJ (t := decide ((n : Int) < (n : Int))) (by kernel_rfl) (decide_eq_false (by omega)) ?_
    refine rx hJ false 2 [] [] (.ok (.out (.exit 0)) [] [(2, Vz), (3, Vi 0), (4, Vp b3), (19, Vi (n : Int)), (20, Vi (n : Int)), (7, v), (21, .bool (decide ((n : Int) < (n : Int))))] [.row v 3 1 (natRows (List.range n)), .box b3 [Vs b n n]] []) trivial trivial (fun _ => by kernel_rfl) ?_
    clear hJ a w; intro a w hJ
    refine x_leave rfl ?_
    refine rx hJ false 6 [] [] (.ok (.ops [0, 1, 1, 1, 1, 1] 2) [.seq [1, 1, 1, 1, 1, 1]] [(2, Vz), (3, Vi 0), (7, v), (28, v), (29, .func (.func 85) #[] #[Vp b3])] [.row v 3 1 (natRows (List.range n)), .box b3 [Vs b n n]] []) trivial trivial (fun _ => by kernel_rfl) ?_
    clear hJ a w; intro a w hJ
    obtain ⟨Av, cv, hE_v, hc_v, hm_v⟩ := hJ.form (v := v) (e := 3) (k := 1) (l := natRows (List.range n)) 0 (by kernel_rfl)
    rw [show (natRows (List.range n)).length = n from by first | omega | (simp; done) | (simp; omega)] at hE_v hc_v
    rw [hE_v] at hJ
    obtain ⟨bV, rfl⟩ := own_some (hJ.rowOwn (v := .slice Av n cv) (e := 3) (kk := 1) (l := natRows (List.range n)) 0 rfl) ((by rw [List.length_map, List.length_range]; omega))
    refine x_callsetw hJ 30 0 (g := bV) (m := n) (cap := cv) (kk := 1) (e := 3) (l := natRows (List.range n)) rfl (fun hok => sort_set (n := n) (by omega) h2 ρ hρl b _ bV cv _ _ _ (hJ.j.boxQ (b := b3) (cs := [Vs b n n]) 1 rfl) ((hro.sees (s5.trans hJ.j.sees))) (by simp [blk, Ent.blocks, Value.ownBlock]) (by have := hJ.j.nodup; simp [blk, Ent.blocks, Value.ownBlock] at this; omega) hok) (fun _ => by kernel_rfl) ?_; clear hJ a w; intro a w hJ
    replace hJ : K ⟨32, h.w, h.bad, []⟩ [(2, Vz), (3, Vi 0), (7, Vs bV n cv), (28, Vs bV n cv), (29, .func (.func 85) #[] #[Vp b3]), (30, .tuple #[])] [.row (Vs bV n cv) 3 1 (natRows (ordL ρ n)), .box b3 [Vs b n n]] [] h4 a w := hJ.to (by kernel_rfl) (by kernel_rfl) rfl
    refine rx hJ false 10 [] [] (.ok (.out .ret) [] [(2, Vs bV n cv), (3, Vi 0)] [.row (Vs bV n cv) 3 1 (natRows (ordL ρ n)), .box b3 [Vs b n n]] []) trivial trivial (fun _ => by kernel_rfl) ?_
    clear hJ a w; intro a w hJ
    obtain ⟨h11, s12, fo, hJn⟩ := hJ.frozen (v := Vs bV n cv) (e := 3) (k := 1) (l := natRows (ordL ρ n)) 0 (by kernel_rfl) (hJ.j.rowOut0 (v := Vs bV n cv) (e := 3) (k := 1) (l := natRows (ordL ρ n)) 0 (by kernel_rfl) rfl); clear hJ; have hJ := hJn; clear hJn
    refine x_end (hQ [Vs bV n cv, Vi 0] _ [] hJ (.rtmp hJ.j (by kernel_rfl) (.rtmp hJ.j (by kernel_rfl) .nil)) (no_own _) rfl ?_).1
    exact ⟨_, _, rfl, (fo.sees hJ.j.out)⟩

end Go.Proofs.Ytgjndkphfabnnaa

/-
  Contract of page.Copy whose pages, and whose first page's fields, are the caller's own.
-/
import Derived.Test.YthgcgciceejicaaGo
import Derived.Test.YthgcgciceejicaaNmC
import Derived.Test.YthgcgciceejicaaPgChk
import Derived.Test.YthgcgciceejicaaConE
import Derived.Test.YthgcgciceejicaaRown
import Derived.Test.YthgcgciceejicaaRgE
namespace Go.Proofs.Ythgcgciceejicaa
open Go.RowKit
set_option linter.unusedVariables false

theorem CRow.seenS {P : Program} {f : FuncId} {args : Array Value} {h : Vw} {e : TypeId} {k : Nat} {l : List (List Value)} (hc : CRow P f args h e k (fun _ rows => rows = l)) : C0 P f args h (fun v h' => ∃ u, v = .slice (sA u) (sN u) (sC u) ∧ RS h' k (.slice (sA u) (sN u) (sC u)) l) := by
  intro a1 a2 a3 a4
  refine (hc a1 a2 a3 a4).mono ?_
  rintro en w' ⟨v, Bo, h1, h2, h3, h4, r, h5, rfl⟩
  have hr : RS ⟨w', h.bad⟩ k v r := row_rs h5 (fun b hb hm => by have := a4 b hm; have := (h5.1.lt b hb).1; omega)
  obtain ⟨A, c, rfl, -, -⟩ := row_form h5
  exact ⟨_, Bo, h1, h2, h3, h4, .slice A r.length c, rfl, hr⟩
theorem CRow.sluS {P : Program} {f : FuncId} {args : Array Value} {h : Vw} {e : TypeId} {k : Nat} {l : List (List Value)} (hc : CRow P f args h e k (fun _ rows => rows = l)) : CRow P f args h e k (fun v rows => (∃ u, v = .slice (sA u) (sN u) (sC u)) ∧ rows = l) := by
  intro a1 a2 a3 a4
  refine (hc a1 a2 a3 a4).mono ?_
  rintro en w' ⟨v, Bo, h1, h2, h3, h4, r, h5, rfl⟩
  obtain ⟨A, c, rfl, -, -⟩ := row_form h5
  exact ⟨_, Bo, h1, h2, h3, h4, r, h5, ⟨.slice A r.length c, rfl⟩, rfl⟩

/-- The first page's fields' slice ahead of the others'; nothing yet. -/
def fsV (k : Nat) (u : Value) (xs : List Value) : List Value := if k = 0 then [] else u :: xs
def fsR (k : Nat) (l : List ByteArray) : List (List Value) := if k = 0 then [] else strRows l
def PgR (p : Pg) (ps : List Pg) (r : Value) (Bo : List Ent) (H : Vw) : Prop := ∃ A c A0 c0 xs vs, r = .slice A (p :: ps).length c ∧ Bo = [.row (.slice A (p :: ps).length c) 38 8 (pgRows (p :: ps) (.slice A0 p.fields.length c0 :: xs) vs), .row (.slice A0 p.fields.length c0) 9 1 (strRows p.fields)] ∧ AllStr H (ps.map (·.fields)) xs ∧ AllArgs H ((p :: ps).map (·.skip)) vs
set_option maxHeartbeats 2000000 in
set_option maxRecDepth 100000 in
theorem pgCopy_con (p0 : Pg) (pt ps : List Pg) (hps : ps = p0 :: pt) (v : Value) (h : Vw) (hp : IsPgs h v ps) (hsz : ∀ p ∈ ps, (szE p.skip).1 < 1000000) (hfl : ∀ p ∈ ps, p.fields.length ≤ 1000) (few : ps.length ≤ 1000) :
    ConE Try.prog 10 #[v] h [] (PgR p0 pt) := by
  obtain ⟨us, ws, A, c, rfl, -, hr, hus, hws, hul, hwl⟩ := pgs_open hp
  have hcp := fun (g : Pg) (hg : g ∈ ps) u H q => copy_any g.skip u H q (hsz g hg)
  have hcl := fun (g : Pg) (hg : g ∈ ps) u H (q : RS H 1 u (strRows g.fields)) => CRow.seenS (c_cloneS (h := H) (v := u) (l := g.fields) q (by have := hfl g hg; omega))
  have hcl0 := fun u H (q : RS H 1 u (strRows p0.fields)) => CRow.sluS (c_cloneS (h := H) (v := u) (l := p0.fields) q (by have := hfl p0 (by rw [hps]; simp); omega))
  have hp00 : ps[0]? = some p0 := by rw [hps]; rfl
  have one : 1 ≤ ps.length := by rw [hps]; simp
  generalize hn : ps.length = n at *
  refine g_conE Try.func10 fun hbad Q hQ => ?_
  refine g_nilrow 9 1 ?_
  refine g_nilrow 38 8 ?_
  refine go0 19 [] [] ?_
  refine g_loop [0, 1, 0, 1, 1] [.block 0, .seq [1, 1, 1]] (fun (k : Nat) X => ∃ (W1 : Vw) (v : Value) (mv : Value) (xs : List Value) (vs : List Value), X W1 [(6, .slice A n c), (7, Vi (n : Int)), (8, Vi (k : Int)), (3, v)] [.row v 38 8 (pgRows (ps.take k) (fsV k mv xs) vs), .row mv 9 1 (fsR k p0.fields)] [] ∧ Sees h W1 ∧ (k ≤ n) ∧ (AllStr W1 ((ps.drop 1).take (k - 1) |>.map (·.fields)) xs) ∧ (AllArgs W1 ((ps.take k).map (·.skip)) vs)) (fun k => n - k) (0) (fun X q => ⟨h, (Vz), (Vz), [], [], q _ _ _ _ ⟨rfl, by kernel_rfl⟩, Sees.refl _, Nat.zero_le _, rfl, by unfold AllArgs; rfl⟩) ?_
  rintro k a w ⟨W1, v, mv, xs, vs, hJ, S2, hk, hxs, hvs⟩; refine g_of hJ ?_; clear hJ a w
  refine go0 6 [] [] ?_
  rcases (by omega : k < n ∨ n = k) with hlt | hke
  · obtain ⟨g, hg⟩ : ∃ g, ps[k]? = some g := ⟨_, List.getElem?_eq_getElem (by omega)⟩
    obtain ⟨u, hu⟩ : ∃ u, us[k]? = some u := ⟨_, List.getElem?_eq_getElem (by omega)⟩
    obtain ⟨w0, hw0⟩ : ∃ u, ws[k]? = some u := ⟨_, List.getElem?_eq_getElem (by omega)⟩
    have hgf := AllStr.get hus (x := g.fields) (by rw [List.getElem?_map, hg]; rfl) hu
    have hgs := AllArgs.get hws (x := g.skip) (by rw [List.getElem?_map, hg]; rfl) hw0
    have hgm := List.mem_of_getElem? hg
    have hgl := hfl g hgm
    obtain ⟨Aw, nw, cw, rfl⟩ := hgs.slice
    obtain ⟨Au, cu, rfl, -⟩ := hgf.form
    have hrow := pgRows_get hg hu hw0
    have hsn := take_snoc' _ k g hg
    have htl1 : 0 < k → (ps.drop 1).take (k + 1 - 1) = (ps.drop 1).take (k - 1) ++ [g] := fun q => by
      obtain ⟨j, rfl⟩ : ∃ j, k = j + 1 := ⟨k - 1, by omega⟩
      exact take_snoc' _ j g (by rw [List.getElem?_drop, Nat.add_comm]; exact hg)
    have hxl := hxs.len
    have hvl := hvs.len
    rw [List.length_map] at hxl hvl
    have htl : (ps.take k).length = k := by rw [List.length_take]; omega
    have hhl : (fsV k mv xs).length = (ps.take k).length := by
      rw [htl]
      unfold fsV
      rw [List.length_take, List.length_drop] at hxl
      split
      · simp; omega
      · simp; omega
    have hrl := pgRows_len hhl hvl
    rw [htl] at hrl
    refine g_true (t := decide ((k : Int) < (n : Int))) (decide_eq_true (by omega)) ?_
    refine go0 6 [] [] ?_
    obtain ⟨b3, o4, rfl, -, c5⟩ := RS.row hr (hrow)
    refine g_fact (c5.sees S2) ?_
    refine go1 7 [.ix b3 o4 n c k, .f 0 0, .own, .b 0 0] [] ?_ (ho := (And.intro (by first | omega | (simp; omega)) (trivial)))
    intro b6
    by_cases k0 : k = 0
    · have hgp : g = p0 := by rw [k0, hp00] at hg; exact (Option.some.inj hg).symm
      rw [← hgp] at hcl0
      refine g_reg 10 1 [.pu, .ld 1 1, .e (fun gh => .slice (sA (gh 2)) (sN (gh 2)) (sC (gh 2))) 0 (fun gh => .row (.slice (sA (gh 2)) (sN (gh 2)) (sC (gh 2))) 9 1 (strRows g.fields)), .pu, .ld 1 2, .f (fun gh => .agg #[Vi g.skip.op, Vi g.skip.k, Vi g.skip.n, .string g.skip.s, .string g.skip.nm, .slice (sA (gh 5)) (sN (gh 5)) (sC (gh 5))]) (fun gh hh => IsArgs hh g.skip (.slice (sA (gh 5)) (sN (gh 5)) (sC (gh 5)))), .pu, .st 1 1, .pu, .st 1 2] [(2, false), (5, false)] (And.intro (fun _ _ _ s c => c.sees s) (trivial)) ?_ ?_
      · intro R hT hA hmono
        refine And.intro (r_callown hT hA hmono ⟨fun _ _ => by kernel_rfl, fun _ _ => by kernel_rfl, fun _ _ => by kernel_rfl⟩ (by kernel_rfl) 14 (fun u => .slice (sA u) (sN u) (sC u)) [1] 2 (by kernel_rfl) (fun _ => by kernel_rfl) 0 (GN R 0) (by kernel_rfl) (by kernel_rfl) (by kernel_rfl) 9 1 (fun gh => strRows g.fields) (fun _ => by kernel_rfl) (fun _ => by kernel_rfl) (fun _ _ => rfl) 23 (fun gh => #[.slice Au ((strRows g.fields).length) cu]) (fun _ _ => by kernel_rfl) (fun gh H sH fH => hcl0 _ _ (hgf.sees (S2.trans sH)))) ?_
        refine And.intro (r_call hT hA hmono ⟨fun _ _ => by kernel_rfl, fun _ _ => by kernel_rfl, fun _ _ => by kernel_rfl⟩ 17 (fun u => .agg #[Vi g.skip.op, Vi g.skip.k, Vi g.skip.n, .string g.skip.s, .string g.skip.nm, .slice (sA u) (sN u) (sC u)]) [2, 4] 5 (by kernel_rfl) (by kernel_rfl) (fun _ => by kernel_rfl) 24 (fun gh => #[.agg #[Vi g.skip.op, Vi g.skip.k, Vi g.skip.n, .string g.skip.s, .string g.skip.nm, .slice Aw nw cw]]) (fun _ _ => by kernel_rfl) (fun gh H sH fH lent => C0.facts (R := R) (x := gh) (i := 5) (n := 0) (F := (fun u => .agg #[Vi g.skip.op, Vi g.skip.k, Vi g.skip.n, .string g.skip.s, .string g.skip.nm, .slice (sA u) (sN u) (sC u)])) (G := fun u hh => IsArgs hh g.skip (.slice (sA u) (sN u) (sC u))) (f := fun gh hh => IsArgs hh g.skip (.slice (sA (gh 5)) (sN (gh 5)) (sC (gh 5)))) (hcp g hgm _ _ (hgs.sees (S2.trans sH))) (by kernel_rfl) (by kernel_rfl) (fun _ _ r => r))) ?_
        trivial
      rintro u14 u17 W7 S8 ⟨f17, -⟩
      replace f17 : IsArgs W7 g.skip (.slice (sA u17) (sN u17) (sC u17)) := f17
      refine gov1 5 [.b 1 0, .fix] [] ?_
      intro b9 W10 S11
      refine goa0 9 [.ap 2 0 (pgRows (ps.take k) (fsV k mv xs) vs) [[.string g.name, .slice (sA u14) (sN u14) (sC u14), Vi g.skip.op, Vi g.skip.k, Vi g.skip.n, .string g.skip.s, .string g.skip.nm, .slice (sA u17) (sN u17) (sC u17)]]] [(24, Vi (IntKind.i64.wrap ((k : Int) + 1)), Vi ((k : Int) + 1))] ?_ (ho := (And.intro (by rw [hrl]; simp; omega) (trivial))) (hc := (And.intro (i64_wrap (by omega) (by omega)) (trivial)))
      intro v23 W12 S13
      refine g_drop 3 ?_
      refine g_front 2 ?_
      refine g_drop 2 ?_
      refine g_is [(6, .slice (some ⟨b3, o4, none⟩) n c), (7, Vi (n : Int)), (3, .slice (sA v23) (sN v23) (sC v23)), (8, Vi ((k : Int) + 1))] [.row (.slice (sA v23) (sN v23) (sC v23)) 38 8 ((pgRows (ps.take k) (fsV k mv xs) vs) ++ [[.string g.name, .slice (sA u14) (sN u14) (sC u14), Vi g.skip.op, Vi g.skip.k, Vi g.skip.n, .string g.skip.s, .string g.skip.nm, .slice (sA u17) (sN u17) (sC u17)]]), .row (.slice (sA u14) (sN u14) (sC u14)) 9 1 (strRows g.fields)] [] ?_
      exact g_round (k + 1) (fun X q => ⟨W12, .slice (sA v23) (sN v23) (sC v23), .slice (sA u14) (sN u14) (sC u14), [], vs ++ [.slice (sA u17) (sN u17) (sC u17)], q _ _ _ _ (says_ents (by rw [hsn, show fsV (k + 1) (.slice (sA u14) (sN u14) (sC u14)) [] = fsV k mv xs ++ [.slice (sA u14) (sN u14) (sC u14)] from by rw [k0]; rfl, pgRows_snoc hhl hvl, ← hgp]; try rfl)), (S2.trans (S8.trans (S11.trans S13))), by omega, (by rw [k0]; exact rfl), by rw [hsn, List.map_append]; exact AllArgs.snoc (f17.sees (S11.trans S13)) (hvs.sees (S8.trans (S11.trans S13)))⟩) (by omega)
    · skip
      refine g_reg 10 0 [.pu, .ld 0 1, .f (fun gh => .slice (sA (gh 2)) (sN (gh 2)) (sC (gh 2))) (fun gh hh => RS hh 1 (.slice (sA (gh 2)) (sN (gh 2)) (sC (gh 2))) (strRows g.fields)), .pu, .ld 0 2, .f (fun gh => .agg #[Vi g.skip.op, Vi g.skip.k, Vi g.skip.n, .string g.skip.s, .string g.skip.nm, .slice (sA (gh 5)) (sN (gh 5)) (sC (gh 5))]) (fun gh hh => IsArgs hh g.skip (.slice (sA (gh 5)) (sN (gh 5)) (sC (gh 5)))), .pu, .st 0 1, .pu, .st 0 2] [(2, false), (5, false)] (And.intro (fun _ _ _ s c => c.sees s) (And.intro (fun _ _ _ s c => c.sees s) (trivial))) ?_ ?_
      · intro R hT hA hmono
        refine And.intro (r_call hT hA hmono ⟨fun _ _ => by kernel_rfl, fun _ _ => by kernel_rfl, fun _ _ => by kernel_rfl⟩ 14 (fun u => .slice (sA u) (sN u) (sC u)) [1] 2 (by kernel_rfl) (by kernel_rfl) (fun _ => by kernel_rfl) 23 (fun gh => #[.slice Au ((strRows g.fields).length) cu]) (fun _ _ => by kernel_rfl) (fun gh H sH fH lent => C0.facts (R := R) (x := gh) (i := 2) (n := 0) (F := (fun u => .slice (sA u) (sN u) (sC u))) (G := fun u hh => RS hh 1 (.slice (sA u) (sN u) (sC u)) (strRows g.fields)) (f := fun gh hh => RS hh 1 (.slice (sA (gh 2)) (sN (gh 2)) (sC (gh 2))) (strRows g.fields)) (hcl g hgm _ _ (hgf.sees (S2.trans sH))) (by kernel_rfl) (by kernel_rfl) (fun _ _ r => r))) ?_
        refine And.intro (r_call hT hA hmono ⟨fun _ _ => by kernel_rfl, fun _ _ => by kernel_rfl, fun _ _ => by kernel_rfl⟩ 17 (fun u => .agg #[Vi g.skip.op, Vi g.skip.k, Vi g.skip.n, .string g.skip.s, .string g.skip.nm, .slice (sA u) (sN u) (sC u)]) [2, 4] 5 (by kernel_rfl) (by kernel_rfl) (fun _ => by kernel_rfl) 24 (fun gh => #[.agg #[Vi g.skip.op, Vi g.skip.k, Vi g.skip.n, .string g.skip.s, .string g.skip.nm, .slice Aw nw cw]]) (fun _ _ => by kernel_rfl) (fun gh H sH fH lent => C0.facts (R := R) (x := gh) (i := 5) (n := 1) (F := (fun u => .agg #[Vi g.skip.op, Vi g.skip.k, Vi g.skip.n, .string g.skip.s, .string g.skip.nm, .slice (sA u) (sN u) (sC u)])) (G := fun u hh => IsArgs hh g.skip (.slice (sA u) (sN u) (sC u))) (f := fun gh hh => IsArgs hh g.skip (.slice (sA (gh 5)) (sN (gh 5)) (sC (gh 5)))) (hcp g hgm _ _ (hgs.sees (S2.trans sH))) (by kernel_rfl) (by kernel_rfl) (fun _ _ r => r))) ?_
        trivial
      rintro u14 u17 W14 S15 ⟨f14, f17, -⟩
      replace f14 : RS W14 1 (.slice (sA u14) (sN u14) (sC u14)) (strRows g.fields) := f14
      replace f17 : IsArgs W14 g.skip (.slice (sA u17) (sN u17) (sC u17)) := f17
      refine gov1 5 [.b 0 0, .fix] [] ?_
      intro b16 W17 S18
      refine goa0 9 [.ap 1 0 (pgRows (ps.take k) (fsV k mv xs) vs) [[.string g.name, .slice (sA u14) (sN u14) (sC u14), Vi g.skip.op, Vi g.skip.k, Vi g.skip.n, .string g.skip.s, .string g.skip.nm, .slice (sA u17) (sN u17) (sC u17)]]] [(24, Vi (IntKind.i64.wrap ((k : Int) + 1)), Vi ((k : Int) + 1))] ?_ (ho := (And.intro (by rw [hrl]; simp; omega) (trivial))) (hc := (And.intro (i64_wrap (by omega) (by omega)) (trivial)))
      intro v23 W19 S20
      refine g_is [(6, .slice (some ⟨b3, o4, none⟩) n c), (7, Vi (n : Int)), (3, .slice (sA v23) (sN v23) (sC v23)), (8, Vi ((k : Int) + 1))] [.row (.slice (sA v23) (sN v23) (sC v23)) 38 8 ((pgRows (ps.take k) (fsV k mv xs) vs) ++ [[.string g.name, .slice (sA u14) (sN u14) (sC u14), Vi g.skip.op, Vi g.skip.k, Vi g.skip.n, .string g.skip.s, .string g.skip.nm, .slice (sA u17) (sN u17) (sC u17)]]), .row mv 9 1 (fsR k p0.fields)] [] ?_
      exact g_round (k + 1) (fun X q => ⟨W19, .slice (sA v23) (sN v23) (sC v23), mv, xs ++ [.slice (sA u14) (sN u14) (sC u14)], vs ++ [.slice (sA u17) (sN u17) (sC u17)], q _ _ _ _ (says_ents (by rw [hsn, show fsV (k + 1) mv (xs ++ [.slice (sA u14) (sN u14) (sC u14)]) = fsV k mv xs ++ [.slice (sA u14) (sN u14) (sC u14)] from (by unfold fsV; rw [if_neg (by omega), if_neg k0]; rfl), show fsR (k + 1) p0.fields = fsR k p0.fields from (by unfold fsR; rw [if_neg (by omega), if_neg k0]), pgRows_snoc hhl hvl]; try rfl)), (S2.trans (S15.trans (S18.trans S20))), by omega, by rw [htl1 (by omega), List.map_append]; exact AllStr.snoc (f14.sees (S18.trans S20)) (hxs.sees (S15.trans (S18.trans S20))), by rw [hsn, List.map_append]; exact AllArgs.snoc (f17.sees (S18.trans S20)) (hvs.sees (S15.trans (S18.trans S20)))⟩) (by omega)
  · skip
    have hta : ps.take k = ps := by rw [← hke, ← hn, List.take_length]
    have e1 : fsV k mv xs = mv :: xs := by unfold fsV; rw [if_neg (by omega)]
    have e2 : fsR k p0.fields = strRows p0.fields := by unfold fsR; rw [if_neg (by omega)]
    have e3 : (ps.drop 1).take (k - 1) = pt := by
      have : pt.length + 1 = n := by rw [← hn, hps]; simp
      rw [hps, List.drop_one, List.tail_cons, List.take_of_length_le (by omega)]
    rw [hta] at hvs
    rw [e3] at hxs
    have hxl := hxs.len
    have hvl := hvs.len
    rw [List.length_map] at hxl hvl
    have hrl := pgRows_len (l := ps) (us := mv :: xs) (vs := vs) (by rw [hps, List.length_cons, List.length_cons, hxl]) hvl
    rw [hn] at hrl
    have hsl : (strRows p0.fields).length = p0.fields.length := List.length_map _
    rw [hta, e1, e2]
    refine g_form 0 (v := v) (e := 38) (kk := 8) (l := pgRows ps (mv :: xs) vs) ?_; intro A2 c2 hE_v hc_v hm_v
    rw [show (pgRows ps (mv :: xs) vs).length = n from by first | omega | (simp; done) | (simp; omega)] at hE_v hc_v
    rw [hE_v]
    refine g_form 1 (v := mv) (e := 9) (kk := 1) (l := strRows p0.fields) ?_; intro A3 c3 hE_mv hc_mv hm_mv
    rw [show (strRows p0.fields).length = p0.fields.length from by first | omega | (simp; done) | (simp; omega)] at hE_mv hc_mv
    rw [hE_mv]
    refine g_false (t := decide ((k : Int) < (n : Int))) (decide_eq_false (by omega)) ?_
    refine go0 2 [] [] ?_
    refine g_leave ?_
    refine go0 9 [] [] ?_
    refine hQ.to [.slice A2 n c2] [0, 1] [.row (.slice A2 n c2) 38 8 (pgRows ps (Value.slice A3 p0.fields.length c3 :: xs) vs), .row (.slice A3 p0.fields.length c3) 9 1 (strRows p0.fields)] (fun H sH => ?_)
    exact ⟨A2, c2, A3, c3, xs, vs, by rw [← hps, hn]; rfl, by rw [← hps, hn], (hxs.sees sH), by rw [← hps]; exact (hvs.sees sH)⟩

end Go.Proofs.Ythgcgciceejicaa

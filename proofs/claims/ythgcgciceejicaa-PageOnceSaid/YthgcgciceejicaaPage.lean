/-
  Contracts of package page: Find, Of, Never.
-/
import Derived.Test.YthgcgciceejicaaGo
import Derived.Test.YthgcgciceejicaaForm
import Derived.Test.YthgcgciceejicaaStr
namespace Go.Proofs.Ythgcgciceejicaa
open Go.RowKit
set_option linter.unusedVariables false

theorem pgRows_get : ∀ {l : List Pg} {us vs : List Value} {i : Nat} {p : Pg} {u v : Value}, l[i]? = some p → us[i]? = some u → vs[i]? = some v → (pgRows l us vs)[i]? = some (pgRow p u v)
  | q :: l, u' :: us, v' :: vs, 0, p, u, v, h1, h2, h3 => by simp at h1 h2 h3; subst h1 h2 h3; rfl
  | q :: l, u' :: us, v' :: vs, i + 1, p, u, v, h1, h2, h3 => pgRows_get (l := l) (by simpa using h1) (by simpa using h2) (by simpa using h3)
  | [], _, _, _, _, _, _, h, _, _ => by simp at h
  | _ :: _, [], _, _, _, _, _, _, h, _ => by simp at h
  | _ :: _, _ :: _, [], _, _, _, _, _, _, h => by simp at h
theorem AllStr.get {h : Vw} : ∀ {l : List (List ByteArray)} {us : List Value}, AllStr h l us → ∀ {i : Nat} {x : List ByteArray} {u : Value}, l[i]? = some x → us[i]? = some u → RS h 1 u (strRows x)
  | [], _, _, i, x, u, hx, _ => by simp at hx
  | y :: l, _, ⟨u', r, e, k1, k2⟩, i, x, u, hx, hu => by
    subst e
    cases i with
    | zero => simp at hx hu; subst hx hu; exact k1
    | succ i => exact AllStr.get k2 (by simpa using hx) (by simpa using hu)
theorem pgs_open {h : Vw} {v : Value} {l : List Pg} (hp : IsPgs h v l) : ∃ us vs A cap, v = .slice A l.length cap ∧ cap ≤ maxLen ∧ RS h 8 (.slice A l.length cap) (pgRows l us vs) ∧ AllStr h (l.map (·.fields)) us ∧ AllArgs h (l.map (·.skip)) vs ∧ us.length = l.length ∧ vs.length = l.length := by
  obtain ⟨us, vs, hr, hs, ha⟩ := hp
  have hu := hs.len
  have hv := ha.len
  rw [List.length_map] at hu hv
  obtain ⟨A, c, e, -, h2, -⟩ := hr.form
  rw [pgRows_len hu hv] at e
  rw [e] at hr
  exact ⟨us, vs, A, c, e, h2, hr, hs, ha, hu, hv⟩
/-- A page at its place: its row, its fields' slice, its formula's arguments'. -/
theorem pg_at {h : Vw} {l : List Pg} {us vs : List Value} (hs : AllStr h (l.map (·.fields)) us) (ha : AllArgs h (l.map (·.skip)) vs) {i : Nat} {p : Pg} (hp : l[i]? = some p) :
    ∃ A c B m d, (pgRows l us vs)[i]? = some (pgRow p (.slice A p.fields.length c) (.slice B m d)) ∧ RS h 1 (.slice A p.fields.length c) (strRows p.fields) ∧ IsArgs h p.skip (.slice B m d) := by
  have hu := hs.len
  have hv := ha.len
  rw [List.length_map] at hu hv
  have hil := (List.getElem?_eq_some_iff.1 hp).1
  obtain ⟨u, hui⟩ : ∃ u, us[i]? = some u := ⟨_, List.getElem?_eq_getElem (by omega)⟩
  obtain ⟨v, hvi⟩ : ∃ v, vs[i]? = some v := ⟨_, List.getElem?_eq_getElem (by omega)⟩
  have h1 := AllStr.get hs (x := p.fields) (by rw [List.getElem?_map, hp]; rfl) hui
  have h2 := AllArgs.get ha (x := p.skip) (by rw [List.getElem?_map, hp]; rfl) hvi
  obtain ⟨A, c, e, -⟩ := h1.form
  rw [List.length_map] at e
  obtain ⟨B, m, d, rfl⟩ := h2.slice
  subst e
  exact ⟨A, c, B, m, d, pgRows_get hp hui hvi, h1, h2⟩

/-- The place of a page by its name, by a field of it; none: -1. -/
def findG (l : List Pg) (s : ByteArray) : Int := fidx (fun p : Pg => p.name.toList == s.toList) l
def ofG (l : List Pg) (s : ByteArray) : Int := fidx (fun p : Pg => memS p.fields s) l

theorem gfind1_any (p : Pg) (u : Value) (A : Option Addr) (n c : Nat) (B : Option Addr) (m d : Nat) (s : ByteArray) (b : Nat) (h : Vw) (hc : Cells h b 0 [.string s]) :
    C0 Try.prog 22 #[.agg #[.string p.name, .slice A n c, .int .i64 p.skip.op, .int .i64 p.skip.k, .int .i64 p.skip.n, .string p.skip.s, .string p.skip.nm, .slice B m d], .pointer (some ⟨b, 0, none⟩)] h (fun r _ => r = .bool (p.name.toList == s.toList)) := by
  refine g_con Try.func22 fun hbx hbad Q hQ => ?_
  refine g_fact (hc.sees (Sees.refl _)) ?_
  refine go1 16 [.own, .b 0 0, .f 0 0] [] ?_
  intro b1
  refine hQ.to [.bool (p.name.toList == s.toList)] (fun H sH => ?_)
  exact rfl
theorem gof1_any (p : Pg) (A : Option Addr) (c : Nat) (B : Option Addr) (m d : Nat) (s : ByteArray) (b : Nat) (h : Vw) (hc : Cells h b 0 [.string s]) (hr : RS h 1 (.slice A p.fields.length c) (strRows p.fields)) (hl : p.fields.length ≤ 1000000) :
    C0 Try.prog 21 #[.agg #[.string p.name, .slice A p.fields.length c, .int .i64 p.skip.op, .int .i64 p.skip.k, .int .i64 p.skip.n, .string p.skip.s, .string p.skip.nm, .slice B m d], .pointer (some ⟨b, 0, none⟩)] h (fun r _ => r = .bool (memS p.fields s)) := by
  have hco := fun H q => contS_any p.fields (.slice A p.fields.length c) s H q hl
  generalize memS p.fields s = t at *
  refine g_con Try.func21 fun hbx hbad Q hQ => ?_
  refine g_fact (hc.sees (Sees.refl _)) ?_
  refine go1 16 [.own, .b 0 1, .f 0 0, .cl 17 #[.slice A p.fields.length c, .string s] (.bool t)] [] ?_ (ho := (And.intro (fun H sH => hco _ (hr.sees sH)) (trivial)))
  intro b1
  refine hQ.to [.bool t] (fun H sH => ?_)
  exact rfl

set_option maxRecDepth 100000 in
theorem gidxF_any (s : ByteArray) (l : List Pg) (us vs : List Value) (A : Option Addr) (cap : Nat) (b : Nat) (h : Vw) (hr : RS h 8 (.slice A l.length cap) (pgRows l us vs)) (hs : AllStr h (l.map (·.fields)) us) (ha : AllArgs h (l.map (·.skip)) vs) (hl : l.length ≤ 1000000) (hc : Cells h b 0 [.string s]) (hfl : ∀ p ∈ l, p.fields.length ≤ 1000000) :
    C0 Try.prog 20 #[.slice A l.length cap, .func (.func 22) #[] #[.pointer (some ⟨b, 0, none⟩)]] h (fun r _ => r = .int .i64 (findG l s)) := by
  have hat := fun i p hp => pg_at (i := i) (p := p) hs ha hp
  generalize hL : l.length = len at *
  refine g_con Try.func20 fun hbx hbad Q hQ => ?_
  refine go0 14 [] [] ?_
  refine g_loop [0, 1, 0, 1] [.block 0, .seq [1, 1]] (fun (k : Nat) X => ∃ (W1 : Vw) , X W1 [(0, .slice A len cap), (1, .func (.func 22) #[] #[Vp b]), (7, Vi (len : Int)), (8, Vi (k : Int))] [] [] ∧ Sees h W1 ∧ (k ≤ len) ∧ (∀ y ∈ l.take k, (y.name.toList == s.toList) = false)) (fun k => len - k) (0) (fun X q => ⟨h, q _ _ _ _ ⟨rfl, by kernel_rfl⟩, Sees.refl _, Nat.zero_le _, fun y hy => by simp at hy⟩) ?_
  rintro k a w ⟨W1, hJ, S2, hk, hn⟩; refine g_of hJ ?_; clear hJ a w
  refine go0 6 [] [] ?_
  rcases (by omega : k < len ∨ k = len) with hlt | hke
  · obtain ⟨p, hpk⟩ : ∃ p, l[k]? = some p := ⟨_, List.getElem?_eq_getElem (by omega)⟩
    obtain ⟨Au, cu, Bu, mu, du, hrow, hrs, -⟩ := hat k p hpk
    have hpl := hfl p (List.mem_of_getElem? hpk)
    refine g_true (t := decide ((k : Int) < (len : Int))) (decide_eq_true (by omega)) ?_
    refine go0 15 [] [] ?_
    obtain ⟨b3, o4, rfl, -, c5⟩ := RS.row hr (hrow)
    refine g_fact (c5.sees S2) ?_
    refine go0 5 [.ix b3 o4 len cap k, .f 0 0, .cl 22 #[.agg #[.string p.name, .slice Au p.fields.length cu, Vi p.skip.op, Vi p.skip.k, Vi p.skip.n, .string p.skip.s, .string p.skip.nm, .slice Bu mu du], Vp b] (.bool (p.name.toList == s.toList))] [] ?_ (ho := (And.intro (by first | omega | (simp; omega)) (And.intro (fun H sH => gfind1_any p (Vz) _ _ _ _ _ _ s b _ (hc.sees (S2.trans sH))) (trivial))))
    cases boolIs (p.name.toList == s.toList) with
    | true hq =>
      refine g_true (t := p.name.toList == s.toList) (hq) ?_
      refine go0 9 [] [] ?_
      refine g_leave ?_
      refine go0 2 [] [] ?_
      refine hQ.to [Vi (k : Int)] (fun H sH => ?_)
      exact congrArg (Value.int .i64) (fidx_found _ l k p hn hpk hq).symm
    | false hq =>
      refine g_false (t := p.name.toList == s.toList) (hq) ?_
      refine go0 7 [] [(18, Vi (IntKind.i64.wrap ((k : Int) + 1)), Vi ((k : Int) + 1))] ?_ (hc := (And.intro (i64_wrap (by omega) (by omega)) (trivial)))
      exact g_round (k + 1) (fun X q => ⟨W1, q _ _ _ _ ⟨rfl, by kernel_rfl⟩, S2, by omega, (by rw [take_snoc' l k p hpk]; exact fun y hy => (List.mem_append.1 hy).elim (hn y) (fun e => by rw [List.mem_singleton.1 e]; exact hq))⟩) (by omega)
  · skip
    have htk : l.take k = l := by rw [hke, ← hL, List.take_length]
    rw [htk] at hn
    refine g_false (t := decide ((k : Int) < (len : Int))) (decide_eq_false (by omega)) ?_
    refine go0 2 [] [] ?_
    refine g_leave ?_
    refine go0 8 [] [] ?_
    refine hQ.to [Vi (-1)] (fun H sH => ?_)
    exact congrArg (Value.int .i64) (fidx_none _ l hn).symm

set_option maxRecDepth 100000 in
theorem gidxO_any (s : ByteArray) (l : List Pg) (us vs : List Value) (A : Option Addr) (cap : Nat) (b : Nat) (h : Vw) (hr : RS h 8 (.slice A l.length cap) (pgRows l us vs)) (hs : AllStr h (l.map (·.fields)) us) (ha : AllArgs h (l.map (·.skip)) vs) (hl : l.length ≤ 1000000) (hc : Cells h b 0 [.string s]) (hfl : ∀ p ∈ l, p.fields.length ≤ 1000000) :
    C0 Try.prog 20 #[.slice A l.length cap, .func (.func 21) #[] #[.pointer (some ⟨b, 0, none⟩)]] h (fun r _ => r = .int .i64 (ofG l s)) := by
  have hat := fun i p hp => pg_at (i := i) (p := p) hs ha hp
  generalize hL : l.length = len at *
  refine g_con Try.func20 fun hbx hbad Q hQ => ?_
  refine go0 14 [] [] ?_
  refine g_loop [0, 1, 0, 1] [.block 0, .seq [1, 1]] (fun (k : Nat) X => ∃ (W1 : Vw) , X W1 [(0, .slice A len cap), (1, .func (.func 21) #[] #[Vp b]), (7, Vi (len : Int)), (8, Vi (k : Int))] [] [] ∧ Sees h W1 ∧ (k ≤ len) ∧ (∀ y ∈ l.take k, (memS y.fields s) = false)) (fun k => len - k) (0) (fun X q => ⟨h, q _ _ _ _ ⟨rfl, by kernel_rfl⟩, Sees.refl _, Nat.zero_le _, fun y hy => by simp at hy⟩) ?_
  rintro k a w ⟨W1, hJ, S2, hk, hn⟩; refine g_of hJ ?_; clear hJ a w
  refine go0 6 [] [] ?_
  rcases (by omega : k < len ∨ k = len) with hlt | hke
  · obtain ⟨p, hpk⟩ : ∃ p, l[k]? = some p := ⟨_, List.getElem?_eq_getElem (by omega)⟩
    obtain ⟨Au, cu, Bu, mu, du, hrow, hrs, -⟩ := hat k p hpk
    have hpl := hfl p (List.mem_of_getElem? hpk)
    refine g_true (t := decide ((k : Int) < (len : Int))) (decide_eq_true (by omega)) ?_
    refine go0 15 [] [] ?_
    obtain ⟨b3, o4, rfl, -, c5⟩ := RS.row hr (hrow)
    refine g_fact (c5.sees S2) ?_
    refine go0 5 [.ix b3 o4 len cap k, .f 0 0, .cl 21 #[.agg #[.string p.name, .slice Au p.fields.length cu, Vi p.skip.op, Vi p.skip.k, Vi p.skip.n, .string p.skip.s, .string p.skip.nm, .slice Bu mu du], Vp b] (.bool (memS p.fields s))] [] ?_ (ho := (And.intro (by first | omega | (simp; omega)) (And.intro (fun H sH => gof1_any p _ _ _ _ _ s b _ (hc.sees (S2.trans sH)) (hrs.sees (S2.trans sH)) hpl) (trivial))))
    cases boolIs (memS p.fields s) with
    | true hq =>
      refine g_true (t := memS p.fields s) (hq) ?_
      refine go0 9 [] [] ?_
      refine g_leave ?_
      refine go0 2 [] [] ?_
      refine hQ.to [Vi (k : Int)] (fun H sH => ?_)
      exact congrArg (Value.int .i64) (fidx_found _ l k p hn hpk hq).symm
    | false hq =>
      refine g_false (t := memS p.fields s) (hq) ?_
      refine go0 7 [] [(18, Vi (IntKind.i64.wrap ((k : Int) + 1)), Vi ((k : Int) + 1))] ?_ (hc := (And.intro (i64_wrap (by omega) (by omega)) (trivial)))
      exact g_round (k + 1) (fun X q => ⟨W1, q _ _ _ _ ⟨rfl, by kernel_rfl⟩, S2, by omega, (by rw [take_snoc' l k p hpk]; exact fun y hy => (List.mem_append.1 hy).elim (hn y) (fun e => by rw [List.mem_singleton.1 e]; exact hq))⟩) (by omega)
  · skip
    have htk : l.take k = l := by rw [hke, ← hL, List.take_length]
    rw [htk] at hn
    refine g_false (t := decide ((k : Int) < (len : Int))) (decide_eq_false (by omega)) ?_
    refine go0 2 [] [] ?_
    refine g_leave ?_
    refine go0 8 [] [] ?_
    refine hQ.to [Vi (-1)] (fun H sH => ?_)
    exact congrArg (Value.int .i64) (fidx_none _ l hn).symm

theorem gFind_any (l : List Pg) (v : Value) (s : ByteArray) (h : Vw) (hp : IsPgs h v l) (hl : l.length ≤ 1000000) (hfl : ∀ p ∈ l, p.fields.length ≤ 1000000) : C0 Try.prog 8 #[v, .string s] h (fun r _ => r = .tuple #[.int .i64 (if findG l s < 0 then 0 else findG l s), .int .i64 (if findG l s < 0 then 5 else 0)]) := by
  obtain ⟨us, vs, A, cap, rfl, -, hr, hs, ha, -, -⟩ := pgs_open hp
  have hi := fun H b q1 q2 q3 q4 => gidxF_any s l us vs A cap b H q1 q2 q3 hl q4 hfl
  generalize findG l s = p at *
  refine g_con Try.func8 fun hbx hbad Q hQ => ?_
  refine gov1 11 [.fix] [] ?_
  intro bsn W1 S2
  refine g_cells 0 bsn 0 [.string s] fun sn => ?_
  refine go0 11 [.cl 20 #[.slice A l.length cap, .func (.func 22) #[] #[Vp bsn]] (Vi p)] [] ?_ (ho := (And.intro (fun H sH => hi _ _ (hr.sees (S2.trans sH)) (hs.sees (S2.trans sH)) (ha.sees (S2.trans sH)) (sn.sees sH)) (trivial)))
  by_cases hp : p < 0
  · refine g_true (t := decide (p < 0)) (decide_eq_true hp) ?_
    refine go0 8 [] [] ?_
    refine hQ.to [Vi 0, Vi 5] (fun H sH => ?_)
    rw [if_pos hp, if_pos hp]; rfl
  · skip
    refine g_false (t := decide (p < 0)) (decide_eq_false hp) ?_
    refine go0 10 [] [] ?_
    refine hQ.to [Vi p, Vi 0] (fun H sH => ?_)
    rw [if_neg hp, if_neg hp]; rfl


theorem gOf_any (l : List Pg) (v : Value) (s : ByteArray) (h : Vw) (hp : IsPgs h v l) (hl : l.length ≤ 1000000) (hfl : ∀ p ∈ l, p.fields.length ≤ 1000000) : C0 Try.prog 7 #[v, .string s] h (fun r _ => r = .tuple #[.int .i64 (if ofG l s < 0 then 0 else ofG l s), .int .i64 (if ofG l s < 0 then 5 else 0)]) := by
  obtain ⟨us, vs, A, cap, rfl, -, hr, hs, ha, -, -⟩ := pgs_open hp
  have hi := fun H b q1 q2 q3 q4 => gidxO_any s l us vs A cap b H q1 q2 q3 hl q4 hfl
  generalize ofG l s = p at *
  refine g_con Try.func7 fun hbx hbad Q hQ => ?_
  refine gov1 11 [.fix] [] ?_
  intro bsn W1 S2
  refine g_cells 0 bsn 0 [.string s] fun sn => ?_
  refine go0 11 [.cl 20 #[.slice A l.length cap, .func (.func 21) #[] #[Vp bsn]] (Vi p)] [] ?_ (ho := (And.intro (fun H sH => hi _ _ (hr.sees (S2.trans sH)) (hs.sees (S2.trans sH)) (ha.sees (S2.trans sH)) (sn.sees sH)) (trivial)))
  by_cases hp : p < 0
  · refine g_true (t := decide (p < 0)) (decide_eq_true hp) ?_
    refine go0 8 [] [] ?_
    refine hQ.to [Vi 0, Vi 5] (fun H sH => ?_)
    rw [if_pos hp, if_pos hp]; rfl
  · skip
    refine g_false (t := decide (p < 0)) (decide_eq_false hp) ?_
    refine go0 10 [] [] ?_
    refine hQ.to [Vi p, Vi 0] (fun H sH => ?_)
    rw [if_neg hp, if_neg hp]; rfl

theorem never_yes (nm : ByteArray) (A : Option Addr) (n c : Nat) (B : Option Addr) (d : Nat) (h : Vw) : C0 Try.prog 18 #[.agg #[.string nm, .slice A n c, .int .i64 0, .int .i64 0, .int .i64 0, .string ⟨#[]⟩, .string ⟨#[]⟩, .slice B 0 d]] h (fun r _ => r = .bool true) := by
  refine g_con Try.func18 fun hbx hbad Q hQ => ?_
  refine go2 28 [.own, .b 0 2, .own, .b 0 0, .b 0 0, .b 0 4, .b 0 1] [] ?_
  intro b1 b2
  refine g_pure (.bool true) (fun w => run_eqop (x := (.tmp 16)) (y := (.tmp 17)) (v := (⟨0, 0, ⟨#[]⟩⟩ : Vl)) (w := (⟨0, 0, ⟨#[]⟩⟩ : Vl)) (by kernel_rfl) (by kernel_rfl) (by kernel_rfl) (eqB_iff.2 rfl)) ?_
  refine go0 11 [.b 0 5] [] ?_
  refine hQ.to [.bool true] (fun H sH => ?_)
  exact rfl
theorem never_no (nm : ByteArray) (x : Ex) (A : Option Addr) (n c : Nat) (B : Option Addr) (m d : Nat) (h : Vw) (hx : x.op ≠ 0) : C0 Try.prog 18 #[.agg #[.string nm, .slice A n c, .int .i64 x.op, .int .i64 x.k, .int .i64 x.n, .string x.s, .string x.nm, .slice B m d]] h (fun r _ => r = .bool false) := by
  refine g_con Try.func18 fun hbx hbad Q hQ => ?_
  refine go2 40 [.own, .b 0 2, .own, .b 0 0, .b 0 0] [(8, .bool (x.op == 0), .bool false)] ?_ (hc := (And.intro (congrArg Value.bool (beq_eq_false_iff_ne.2 hx)) (trivial)))
  intro b1 b2
  refine hQ.to [.bool false] (fun H sH => ?_)
  exact rfl

end Go.Proofs.Ythgcgciceejicaa

/-
  Contracts of package page: Find, Of, Never.
-/
import Derived.Test.YtgjndkphfabnnaaForm
import Derived.Test.YtgjndkphfabnnaaStr
namespace Go.Proofs.Ytgjndkphfabnnaa
open Go.RowKit
set_option linter.unusedVariables false

theorem pgRows_get : ∀ {l : List Pg} {us vs : List Value} {i : Nat} {p : Pg} {u v : Value}, l[i]? = some p → us[i]? = some u → vs[i]? = some v → (pgRows l us vs)[i]? = some (pgRow p u v)
  | q :: l, u' :: us, v' :: vs, 0, p, u, v, h1, h2, h3 => by simp at h1 h2 h3; subst h1 h2 h3; rfl
  | q :: l, u' :: us, v' :: vs, i + 1, p, u, v, h1, h2, h3 => pgRows_get (l := l) (by simpa using h1) (by simpa using h2) (by simpa using h3)
  | [], _, _, _, _, _, _, h, _, _ => by simp at h
  | _ :: _, [], _, _, _, _, _, _, h, _ => by simp at h
  | _ :: _, _ :: _, [], _, _, _, _, _, _, h => by simp at h
theorem AllStr.get {h : Vw} : ∀ {l : List (List ByteArray)} {us : List Value}, AllStr h l us → ∀ {i : Nat} {x : List ByteArray} {u : Value}, l[i]? = some x → us[i]? = some u → RS h 1 u (strRows x)
  | [], _, _, i, x, u, hx, _ => by simp at hx
  | y :: l, _, ⟨u', r, e, k1, k2⟩, i, x, u, hx, hu => by
    subst e
    cases i with
    | zero => simp at hx hu; subst hx hu; exact k1
    | succ i => exact AllStr.get k2 (by simpa using hx) (by simpa using hu)
theorem pgs_open {h : Vw} {v : Value} {l : List Pg} (hp : IsPgs h v l) : ∃ us vs A cap, v = .slice A l.length cap ∧ cap ≤ maxLen ∧ RS h 8 (.slice A l.length cap) (pgRows l us vs) ∧ AllStr h (l.map (·.fields)) us ∧ AllArgs h (l.map (·.skip)) vs ∧ us.length = l.length ∧ vs.length = l.length := by
  obtain ⟨us, vs, hr, hs, ha⟩ := hp
  have hu := hs.len
  have hv := ha.len
  rw [List.length_map] at hu hv
  obtain ⟨A, c, e, -, h2, -⟩ := hr.form
  rw [pgRows_len hu hv] at e
  rw [e] at hr
  exact ⟨us, vs, A, c, e, h2, hr, hs, ha, hu, hv⟩
/-- A page at its place: its row, its fields' slice, its formula's arguments'. -/
theorem pg_at {h : Vw} {l : List Pg} {us vs : List Value} (hs : AllStr h (l.map (·.fields)) us) (ha : AllArgs h (l.map (·.skip)) vs) {i : Nat} {p : Pg} (hp : l[i]? = some p) :
    ∃ A c B m d, (pgRows l us vs)[i]? = some (pgRow p (.slice A p.fields.length c) (.slice B m d)) ∧ RS h 1 (.slice A p.fields.length c) (strRows p.fields) ∧ IsArgs h p.skip (.slice B m d) := by
  have hu := hs.len
  have hv := ha.len
  rw [List.length_map] at hu hv
  have hil := (List.getElem?_eq_some_iff.1 hp).1
  obtain ⟨u, hui⟩ : ∃ u, us[i]? = some u := ⟨_, List.getElem?_eq_getElem (by omega)⟩
  obtain ⟨v, hvi⟩ : ∃ v, vs[i]? = some v := ⟨_, List.getElem?_eq_getElem (by omega)⟩
  have h1 := AllStr.get hs (x := p.fields) (by rw [List.getElem?_map, hp]; rfl) hui
  have h2 := AllArgs.get ha (x := p.skip) (by rw [List.getElem?_map, hp]; rfl) hvi
  obtain ⟨A, c, e, -⟩ := h1.form
  rw [List.length_map] at e
  obtain ⟨B, m, d, rfl⟩ := h2.slice
  subst e
  exact ⟨A, c, B, m, d, pgRows_get hp hui hvi, h1, h2⟩

/-- The place of a page by its name, by a field of it; none: -1. -/
def findG (l : List Pg) (s : ByteArray) : Int := fidx (fun p : Pg => p.name.toList == s.toList) l
def ofG (l : List Pg) (s : ByteArray) : Int := fidx (fun p : Pg => memS p.fields s) l

theorem gfind1_any (p : Pg) (u : Value) (A : Option Addr) (n c : Nat) (B : Option Addr) (m d : Nat) (s : ByteArray) (b : Nat) (h : Vw) (hc : Cells h b 0 [.string s]) :
    C0 Try.prog 66 #[.agg #[.string p.name, .slice A n c, .int .i64 p.skip.op, .int .i64 p.skip.k, .int .i64 p.skip.n, .string p.skip.s, .string p.skip.nm, .slice B m d], .pointer (some ⟨b, 0, none⟩)] h (fun r _ => r = .bool (p.name.toList == s.toList)) := by
  refine x_con Try.func66 (c := Try.f66.body.getD .skip) (by kernel_rfl) (N := 8) rfl (by kernel_rfl) ?_
  intro hbx hbad Q hQ a w hJ
  replace hJ : K ⟨8, h.w, h.bad, []⟩ [(0, .agg #[.string p.name, .slice A n c, .int .i64 p.skip.op, .int .i64 p.skip.k, .int .i64 p.skip.n, .string p.skip.s, .string p.skip.nm, .slice B m d]), (1, .pointer (some ⟨b, 0, none⟩))] [] [] h a w := hJ.to (by kernel_rfl) (by kernel_rfl) rfl
  replace hJ := hJ.fact (hc.sees (Sees.refl _))
  refine rx hJ false 16 [.own, .b 0 0, .f 0 0] [] (.new fun b1 => .ok (.out .ret) [] [(3, .bool (p.name.toList == s.toList))] [.box b1 [.string p.name, .slice A n c, .int .i64 p.skip.op, .int .i64 p.skip.k, .int .i64 p.skip.n, .string p.skip.s, .string p.skip.nm, .slice B m d]] [(b, 0, [.string s])]) trivial trivial (fun b1 _ => by kernel_rfl) ?_
  clear hJ a w; intro b1 a w hJ
  refine x_end (hQ [.bool (p.name.toList == s.toList)] _ [] hJ (.rtmp hJ.j (by kernel_rfl) .nil) (no_own _) rfl ?_).1
  exact rfl
theorem gof1_any (p : Pg) (A : Option Addr) (c : Nat) (B : Option Addr) (m d : Nat) (s : ByteArray) (b : Nat) (h : Vw) (hc : Cells h b 0 [.string s]) (hr : RS h 1 (.slice A p.fields.length c) (strRows p.fields)) (hl : p.fields.length ≤ 1000000) :
    C0 Try.prog 65 #[.agg #[.string p.name, .slice A p.fields.length c, .int .i64 p.skip.op, .int .i64 p.skip.k, .int .i64 p.skip.n, .string p.skip.s, .string p.skip.nm, .slice B m d], .pointer (some ⟨b, 0, none⟩)] h (fun r _ => r = .bool (memS p.fields s)) := by
  have hco := fun H q => contS_any p.fields (.slice A p.fields.length c) s H q hl
  generalize memS p.fields s = t at *
  refine x_con Try.func65 (c := Try.f65.body.getD .skip) (by kernel_rfl) (N := 8) rfl (by kernel_rfl) ?_
  intro hbx hbad Q hQ a w hJ
  replace hJ : K ⟨8, h.w, h.bad, []⟩ [(0, .agg #[.string p.name, .slice A p.fields.length c, .int .i64 p.skip.op, .int .i64 p.skip.k, .int .i64 p.skip.n, .string p.skip.s, .string p.skip.nm, .slice B m d]), (1, .pointer (some ⟨b, 0, none⟩))] [] [] h a w := hJ.to (by kernel_rfl) (by kernel_rfl) rfl
  replace hJ := hJ.fact (hc.sees (Sees.refl _))
  refine rx hJ false 16 [.own, .b 0 1, .f 0 0, .cl 24 #[.slice A p.fields.length c, .string s] (.bool t)] [] (.new fun b1 => .ok (.out .ret) [] [(3, .bool t)] [.box b1 [.string p.name, .slice A p.fields.length c, .int .i64 p.skip.op, .int .i64 p.skip.k, .int .i64 p.skip.n, .string p.skip.s, .string p.skip.nm, .slice B m d]] [(b, 0, [.string s])]) (And.intro (fun H sH => hco _ (hr.sees sH)) (trivial)) trivial (fun b1 _ => by kernel_rfl) ?_
  clear hJ a w; intro b1 a w hJ
  refine x_end (hQ [.bool t] _ [] hJ (.rtmp hJ.j (by kernel_rfl) .nil) (no_own _) rfl ?_).1
  exact rfl

set_option maxRecDepth 100000 in
theorem gidxF_any (s : ByteArray) (l : List Pg) (us vs : List Value) (A : Option Addr) (cap : Nat) (b : Nat) (h : Vw) (hr : RS h 8 (.slice A l.length cap) (pgRows l us vs)) (hs : AllStr h (l.map (·.fields)) us) (ha : AllArgs h (l.map (·.skip)) vs) (hl : l.length ≤ 1000000) (hc : Cells h b 0 [.string s]) (hfl : ∀ p ∈ l, p.fields.length ≤ 1000000) :
    C0 Try.prog 64 #[.slice A l.length cap, .func (.func 66) #[] #[.pointer (some ⟨b, 0, none⟩)]] h (fun r _ => r = .int .i64 (findG l s)) := by
  have hat := fun i p hp => pg_at (i := i) (p := p) hs ha hp
  generalize hL : l.length = len at *
  refine x_con Try.func64 (c := Try.f64.body.getD .skip) (by kernel_rfl) (N := 19) rfl (by kernel_rfl) ?_
  intro hbx hbad Q hQ a w hJ
  replace hJ : K ⟨19, h.w, h.bad, []⟩ [(0, .slice A len cap), (1, .func (.func 66) #[] #[.pointer (some ⟨b, 0, none⟩)])] [] [] h a w := hJ.to (by kernel_rfl) (by kernel_rfl) rfl
  refine rx hJ false 14 [] [] (.ok (.code [0, 1, 0, 1]) [.block 0, .seq [1, 1]] [(0, .slice A len cap), (1, .func (.func 66) #[] #[.pointer (some ⟨b, 0, none⟩)]), (4, .int .i64 0), (7, .int .i64 (len : Int)), (8, .int .i64 0)] [] []) trivial trivial (fun _ => by kernel_rfl) ?_
  clear hJ a w; intro a w hJ
  refine x_loop (fun (k : Nat) a w => ∃ (h1 : Vw) , K ⟨19, h.w, h.bad, []⟩ [(0, .slice A len cap), (1, .func (.func 66) #[] #[.pointer (some ⟨b, 0, none⟩)]), (7, .int .i64 (len : Int)), (8, .int .i64 (k : Int))] [] [] h1 a w ∧ Sees h h1 ∧ (k ≤ len) ∧ (∀ y ∈ l.take k, (y.name.toList == s.toList) = false)) (fun k => len - k) (0) (by kernel_rfl) ⟨h, hJ.to (by kernel_rfl) (by kernel_rfl) rfl, Sees.refl _, Nat.zero_le _, fun y hy => by simp at hy⟩ ?_
  clear hJ a w; rintro k a w ⟨h1, hJ, s2, hk, hn⟩
  refine rx hJ false 6 [] [] (.ok (.code [0, 1, 0, 0, 1, 0, 1]) [.seq [1, 1, 0, 0, 1, 0, 1]] [(0, .slice A len cap), (1, .func (.func 66) #[] #[.pointer (some ⟨b, 0, none⟩)]), (7, .int .i64 (len : Int)), (8, .int .i64 (k : Int)), (9, .bool (decide ((k : Int) < (len : Int))))] [] []) trivial trivial (fun _ => by kernel_rfl) ?_
  clear hJ a w; intro a w hJ
  rcases (by omega : k < len ∨ k = len) with hlt | hke
  · obtain ⟨p, hpk⟩ : ∃ p, l[k]? = some p := ⟨_, List.getElem?_eq_getElem (by omega)⟩
    obtain ⟨Au, cu, Bu, mu, du, hrow, hrs, -⟩ := hat k p hpk
    have hpl := hfl p (List.mem_of_getElem? hpk)
    refine x_true hJ (t := decide ((k : Int) < (len : Int))) (by kernel_rfl) (decide_eq_true (by omega)) ?_
    refine rx hJ false 15 [] [] (.ok (.ops [0, 1, 0, 0, 1, 1, 0, 0, 1, 0, 1] 3) [.seq [1, 1, 0, 0, 1, 1, 0, 0, 1, 0, 1], .block 1, .seq [1, 1, 1, 0, 0, 1, 0, 1]] [(0, .slice A len cap), (1, .func (.func 66) #[] #[.pointer (some ⟨b, 0, none⟩)]), (7, .int .i64 (len : Int)), (8, .int .i64 (k : Int)), (9, .bool (decide ((k : Int) < (len : Int)))), (10, .int .i64 (k : Int)), (5, .int .i64 (k : Int)), (11, .func (.func 66) #[] #[.pointer (some ⟨b, 0, none⟩)]), (12, .slice A len cap), (13, .int .i64 (k : Int))] [] []) trivial trivial (fun _ => by kernel_rfl) ?_
    clear hJ a w; intro a w hJ
    obtain ⟨b3, o4, rfl, -, c5⟩ := RS.row hr (hrow)
    replace hJ := hJ.fact (c5.sees s2)
    refine rx hJ false 5 [.ix b3 o4 len cap k, .f 0 0, .cl 66 #[.agg #[.string p.name, .slice Au p.fields.length cu, .int .i64 p.skip.op, .int .i64 p.skip.k, .int .i64 p.skip.n, .string p.skip.s, .string p.skip.nm, .slice Bu mu du], .pointer (some ⟨b, 0, none⟩)] (.bool (p.name.toList == s.toList))] [] (.ok (.code [1, 1, 0, 0, 1, 1, 0, 0, 1, 0, 1]) [.block 1, .seq [1, 1, 1, 0, 0, 1, 0, 1]] [(0, .slice (some ⟨b3, o4, none⟩) len cap), (1, .func (.func 66) #[] #[.pointer (some ⟨b, 0, none⟩)]), (7, .int .i64 (len : Int)), (8, .int .i64 (k : Int)), (9, .bool (decide ((k : Int) < (len : Int)))), (10, .int .i64 (k : Int)), (5, .int .i64 (k : Int)), (11, .func (.func 66) #[] #[.pointer (some ⟨b, 0, none⟩)]), (12, .slice (some ⟨b3, o4, none⟩) len cap), (13, .int .i64 (k : Int)), (14, .pointer (some ⟨b3, o4 + k * 8, none⟩)), (15, .agg #[.string p.name, .slice Au p.fields.length cu, .int .i64 p.skip.op, .int .i64 p.skip.k, .int .i64 p.skip.n, .string p.skip.s, .string p.skip.nm, .slice Bu mu du]), (16, .bool (p.name.toList == s.toList))] [] [(b3, o4 + k * 8, [.string p.name, .slice Au p.fields.length cu, .int .i64 p.skip.op, .int .i64 p.skip.k, .int .i64 p.skip.n, .string p.skip.s, .string p.skip.nm, .slice Bu mu du])]) (And.intro (by first | omega | (simp; omega)) (And.intro (fun H sH => gfind1_any p (.slice none 0 0) _ _ _ _ _ _ s b _ (hc.sees (s2.trans sH))) (trivial))) trivial (fun _ => by kernel_rfl) ?_
    clear hJ a w; intro a w hJ
    cases hq : p.name.toList == s.toList with
    | true =>
      refine x_true hJ (t := p.name.toList == s.toList) (by kernel_rfl) (hq) ?_
      refine rx hJ false 9 [] [] (.ok (.out .ret) [] [(0, .slice (some ⟨b3, o4, none⟩) len cap), (1, .func (.func 66) #[] #[.pointer (some ⟨b, 0, none⟩)]), (7, .int .i64 (len : Int)), (8, .int .i64 (k : Int)), (9, .bool (decide ((k : Int) < (len : Int)))), (10, .int .i64 (k : Int)), (5, .int .i64 (k : Int)), (11, .func (.func 66) #[] #[.pointer (some ⟨b, 0, none⟩)]), (12, .slice (some ⟨b3, o4, none⟩) len cap), (13, .int .i64 (k : Int)), (14, .pointer (some ⟨b3, o4 + k * 8, none⟩)), (15, .agg #[.string p.name, .slice Au p.fields.length cu, .int .i64 p.skip.op, .int .i64 p.skip.k, .int .i64 p.skip.n, .string p.skip.s, .string p.skip.nm, .slice Bu mu du]), (16, .bool (p.name.toList == s.toList)), (17, .int .i64 (k : Int)), (4, .int .i64 (k : Int))] [] [(b3, o4 + k * 8, [.string p.name, .slice Au p.fields.length cu, .int .i64 p.skip.op, .int .i64 p.skip.k, .int .i64 p.skip.n, .string p.skip.s, .string p.skip.nm, .slice Bu mu du])]) trivial trivial (fun _ => by kernel_rfl) ?_
      clear hJ a w; intro a w hJ
      refine x_leave rfl ?_
      refine rx hJ false 2 [] [] (.ok (.out .ret) [] [(4, .int .i64 (k : Int))] [] [(b3, o4 + k * 8, [.string p.name, .slice Au p.fields.length cu, .int .i64 p.skip.op, .int .i64 p.skip.k, .int .i64 p.skip.n, .string p.skip.s, .string p.skip.nm, .slice Bu mu du])]) trivial trivial (fun _ => by kernel_rfl) ?_
      clear hJ a w; intro a w hJ
      refine x_end (hQ [.int .i64 (k : Int)] _ [] hJ (.rtmp hJ.j (by kernel_rfl) .nil) (no_own _) rfl ?_).1
      exact congrArg (Value.int .i64) (fidx_found _ l k p hn hpk hq).symm
    | false =>
      refine x_false hJ (t := p.name.toList == s.toList) (by kernel_rfl) (hq) ?_
      refine rx hJ false 7 [] [(18, .int .i64 (IntKind.i64.wrap ((k : Int) + 1)), .int .i64 ((k : Int) + 1))] (.ok (.out .normal) [] [(0, .slice (some ⟨b3, o4, none⟩) len cap), (1, .func (.func 66) #[] #[.pointer (some ⟨b, 0, none⟩)]), (7, .int .i64 (len : Int)), (9, .bool (decide ((k : Int) < (len : Int)))), (10, .int .i64 (k : Int)), (5, .int .i64 (k : Int)), (11, .func (.func 66) #[] #[.pointer (some ⟨b, 0, none⟩)]), (12, .slice (some ⟨b3, o4, none⟩) len cap), (13, .int .i64 (k : Int)), (14, .pointer (some ⟨b3, o4 + k * 8, none⟩)), (15, .agg #[.string p.name, .slice Au p.fields.length cu, .int .i64 p.skip.op, .int .i64 p.skip.k, .int .i64 p.skip.n, .string p.skip.s, .string p.skip.nm, .slice Bu mu du]), (16, .bool (p.name.toList == s.toList)), (18, .int .i64 ((k : Int) + 1)), (8, .int .i64 ((k : Int) + 1))] [] [(b3, o4 + k * 8, [.string p.name, .slice Au p.fields.length cu, .int .i64 p.skip.op, .int .i64 p.skip.k, .int .i64 p.skip.n, .string p.skip.s, .string p.skip.nm, .slice Bu mu du])]) trivial (And.intro (i64_wrap (by omega) (by omega)) (trivial)) (fun _ => by kernel_rfl) ?_
      clear hJ a w; intro a w hJ
      exact x_round ⟨k + 1, ⟨h1, (hJ.tof [] (F' := []) (by kernel_rfl)).to (by kernel_rfl) (by kernel_rfl) rfl, s2, by omega, (by rw [take_snoc' l k p hpk]; exact fun y hy => (List.mem_append.1 hy).elim (hn y) (fun e => by rw [List.mem_singleton.1 e]; exact hq))⟩, by omega⟩
  · skip
    have htk : l.take k = l := by rw [hke, ← hL, List.take_length]
    rw [htk] at hn
    refine x_false hJ (t := decide ((k : Int) < (len : Int))) (by kernel_rfl) (decide_eq_false (by omega)) ?_
    refine rx hJ false 2 [] [] (.ok (.out (.exit 0)) [] [(0, .slice A len cap), (1, .func (.func 66) #[] #[.pointer (some ⟨b, 0, none⟩)]), (7, .int .i64 (len : Int)), (8, .int .i64 (k : Int)), (9, .bool (decide ((k : Int) < (len : Int))))] [] []) trivial trivial (fun _ => by kernel_rfl) ?_
    clear hJ a w; intro a w hJ
    refine x_leave rfl ?_
    refine rx hJ false 8 [] [] (.ok (.out .ret) [] [(4, .int .i64 (-1))] [] []) trivial trivial (fun _ => by kernel_rfl) ?_
    clear hJ a w; intro a w hJ
    refine x_end (hQ [.int .i64 (-1)] _ [] hJ (.rtmp hJ.j (by kernel_rfl) .nil) (no_own _) rfl ?_).1
    exact congrArg (Value.int .i64) (fidx_none _ l hn).symm

set_option maxRecDepth 100000 in
theorem gidxO_any (s : ByteArray) (l : List Pg) (us vs : List Value) (A : Option Addr) (cap : Nat) (b : Nat) (h : Vw) (hr : RS h 8 (.slice A l.length cap) (pgRows l us vs)) (hs : AllStr h (l.map (·.fields)) us) (ha : AllArgs h (l.map (·.skip)) vs) (hl : l.length ≤ 1000000) (hc : Cells h b 0 [.string s]) (hfl : ∀ p ∈ l, p.fields.length ≤ 1000000) :
    C0 Try.prog 64 #[.slice A l.length cap, .func (.func 65) #[] #[.pointer (some ⟨b, 0, none⟩)]] h (fun r _ => r = .int .i64 (ofG l s)) := by
  have hat := fun i p hp => pg_at (i := i) (p := p) hs ha hp
  generalize hL : l.length = len at *
  refine x_con Try.func64 (c := Try.f64.body.getD .skip) (by kernel_rfl) (N := 19) rfl (by kernel_rfl) ?_
  intro hbx hbad Q hQ a w hJ
  replace hJ : K ⟨19, h.w, h.bad, []⟩ [(0, .slice A len cap), (1, .func (.func 65) #[] #[.pointer (some ⟨b, 0, none⟩)])] [] [] h a w := hJ.to (by kernel_rfl) (by kernel_rfl) rfl
  refine rx hJ false 14 [] [] (.ok (.code [0, 1, 0, 1]) [.block 0, .seq [1, 1]] [(0, .slice A len cap), (1, .func (.func 65) #[] #[.pointer (some ⟨b, 0, none⟩)]), (4, .int .i64 0), (7, .int .i64 (len : Int)), (8, .int .i64 0)] [] []) trivial trivial (fun _ => by kernel_rfl) ?_
  clear hJ a w; intro a w hJ
  refine x_loop (fun (k : Nat) a w => ∃ (h1 : Vw) , K ⟨19, h.w, h.bad, []⟩ [(0, .slice A len cap), (1, .func (.func 65) #[] #[.pointer (some ⟨b, 0, none⟩)]), (7, .int .i64 (len : Int)), (8, .int .i64 (k : Int))] [] [] h1 a w ∧ Sees h h1 ∧ (k ≤ len) ∧ (∀ y ∈ l.take k, (memS y.fields s) = false)) (fun k => len - k) (0) (by kernel_rfl) ⟨h, hJ.to (by kernel_rfl) (by kernel_rfl) rfl, Sees.refl _, Nat.zero_le _, fun y hy => by simp at hy⟩ ?_
  clear hJ a w; rintro k a w ⟨h1, hJ, s2, hk, hn⟩
  refine rx hJ false 6 [] [] (.ok (.code [0, 1, 0, 0, 1, 0, 1]) [.seq [1, 1, 0, 0, 1, 0, 1]] [(0, .slice A len cap), (1, .func (.func 65) #[] #[.pointer (some ⟨b, 0, none⟩)]), (7, .int .i64 (len : Int)), (8, .int .i64 (k : Int)), (9, .bool (decide ((k : Int) < (len : Int))))] [] []) trivial trivial (fun _ => by kernel_rfl) ?_
  clear hJ a w; intro a w hJ
  rcases (by omega : k < len ∨ k = len) with hlt | hke
  · obtain ⟨p, hpk⟩ : ∃ p, l[k]? = some p := ⟨_, List.getElem?_eq_getElem (by omega)⟩
    obtain ⟨Au, cu, Bu, mu, du, hrow, hrs, -⟩ := hat k p hpk
    have hpl := hfl p (List.mem_of_getElem? hpk)
    refine x_true hJ (t := decide ((k : Int) < (len : Int))) (by kernel_rfl) (decide_eq_true (by omega)) ?_
    refine rx hJ false 15 [] [] (.ok (.ops [0, 1, 0, 0, 1, 1, 0, 0, 1, 0, 1] 3) [.seq [1, 1, 0, 0, 1, 1, 0, 0, 1, 0, 1], .block 1, .seq [1, 1, 1, 0, 0, 1, 0, 1]] [(0, .slice A len cap), (1, .func (.func 65) #[] #[.pointer (some ⟨b, 0, none⟩)]), (7, .int .i64 (len : Int)), (8, .int .i64 (k : Int)), (9, .bool (decide ((k : Int) < (len : Int)))), (10, .int .i64 (k : Int)), (5, .int .i64 (k : Int)), (11, .func (.func 65) #[] #[.pointer (some ⟨b, 0, none⟩)]), (12, .slice A len cap), (13, .int .i64 (k : Int))] [] []) trivial trivial (fun _ => by kernel_rfl) ?_
    clear hJ a w; intro a w hJ
    obtain ⟨b3, o4, rfl, -, c5⟩ := RS.row hr (hrow)
    replace hJ := hJ.fact (c5.sees s2)
    refine rx hJ false 5 [.ix b3 o4 len cap k, .f 0 0, .cl 65 #[.agg #[.string p.name, .slice Au p.fields.length cu, .int .i64 p.skip.op, .int .i64 p.skip.k, .int .i64 p.skip.n, .string p.skip.s, .string p.skip.nm, .slice Bu mu du], .pointer (some ⟨b, 0, none⟩)] (.bool (memS p.fields s))] [] (.ok (.code [1, 1, 0, 0, 1, 1, 0, 0, 1, 0, 1]) [.block 1, .seq [1, 1, 1, 0, 0, 1, 0, 1]] [(0, .slice (some ⟨b3, o4, none⟩) len cap), (1, .func (.func 65) #[] #[.pointer (some ⟨b, 0, none⟩)]), (7, .int .i64 (len : Int)), (8, .int .i64 (k : Int)), (9, .bool (decide ((k : Int) < (len : Int)))), (10, .int .i64 (k : Int)), (5, .int .i64 (k : Int)), (11, .func (.func 65) #[] #[.pointer (some ⟨b, 0, none⟩)]), (12, .slice (some ⟨b3, o4, none⟩) len cap), (13, .int .i64 (k : Int)), (14, .pointer (some ⟨b3, o4 + k * 8, none⟩)), (15, .agg #[.string p.name, .slice Au p.fields.length cu, .int .i64 p.skip.op, .int .i64 p.skip.k, .int .i64 p.skip.n, .string p.skip.s, .string p.skip.nm, .slice Bu mu du]), (16, .bool (memS p.fields s))] [] [(b3, o4 + k * 8, [.string p.name, .slice Au p.fields.length cu, .int .i64 p.skip.op, .int .i64 p.skip.k, .int .i64 p.skip.n, .string p.skip.s, .string p.skip.nm, .slice Bu mu du])]) (And.intro (by first | omega | (simp; omega)) (And.intro (fun H sH => gof1_any p _ _ _ _ _ s b _ (hc.sees (s2.trans sH)) (hrs.sees (s2.trans sH)) hpl) (trivial))) trivial (fun _ => by kernel_rfl) ?_
    clear hJ a w; intro a w hJ
    cases hq : memS p.fields s with
    | true =>
      refine x_true hJ (t := memS p.fields s) (by kernel_rfl) (hq) ?_
      refine rx hJ false 9 [] [] (.ok (.out .ret) [] [(0, .slice (some ⟨b3, o4, none⟩) len cap), (1, .func (.func 65) #[] #[.pointer (some ⟨b, 0, none⟩)]), (7, .int .i64 (len : Int)), (8, .int .i64 (k : Int)), (9, .bool (decide ((k : Int) < (len : Int)))), (10, .int .i64 (k : Int)), (5, .int .i64 (k : Int)), (11, .func (.func 65) #[] #[.pointer (some ⟨b, 0, none⟩)]), (12, .slice (some ⟨b3, o4, none⟩) len cap), (13, .int .i64 (k : Int)), (14, .pointer (some ⟨b3, o4 + k * 8, none⟩)), (15, .agg #[.string p.name, .slice Au p.fields.length cu, .int .i64 p.skip.op, .int .i64 p.skip.k, .int .i64 p.skip.n, .string p.skip.s, .string p.skip.nm, .slice Bu mu du]), (16, .bool (memS p.fields s)), (17, .int .i64 (k : Int)), (4, .int .i64 (k : Int))] [] [(b3, o4 + k * 8, [.string p.name, .slice Au p.fields.length cu, .int .i64 p.skip.op, .int .i64 p.skip.k, .int .i64 p.skip.n, .string p.skip.s, .string p.skip.nm, .slice Bu mu du])]) trivial trivial (fun _ => by kernel_rfl) ?_
      clear hJ a w; intro a w hJ
      refine x_leave rfl ?_
      refine rx hJ false 2 [] [] (.ok (.out .ret) [] [(4, .int .i64 (k : Int))] [] [(b3, o4 + k * 8, [.string p.name, .slice Au p.fields.length cu, .int .i64 p.skip.op, .int .i64 p.skip.k, .int .i64 p.skip.n, .string p.skip.s, .string p.skip.nm, .slice Bu mu du])]) trivial trivial (fun _ => by kernel_rfl) ?_
      clear hJ a w; intro a w hJ
      refine x_end (hQ [.int .i64 (k : Int)] _ [] hJ (.rtmp hJ.j (by kernel_rfl) .nil) (no_own _) rfl ?_).1
      exact congrArg (Value.int .i64) (fidx_found _ l k p hn hpk hq).symm
    | false =>
      refine x_false hJ (t := memS p.fields s) (by kernel_rfl) (hq) ?_
      refine rx hJ false 7 [] [(18, .int .i64 (IntKind.i64.wrap ((k : Int) + 1)), .int .i64 ((k : Int) + 1))] (.ok (.out .normal) [] [(0, .slice (some ⟨b3, o4, none⟩) len cap), (1, .func (.func 65) #[] #[.pointer (some ⟨b, 0, none⟩)]), (7, .int .i64 (len : Int)), (9, .bool (decide ((k : Int) < (len : Int)))), (10, .int .i64 (k : Int)), (5, .int .i64 (k : Int)), (11, .func (.func 65) #[] #[.pointer (some ⟨b, 0, none⟩)]), (12, .slice (some ⟨b3, o4, none⟩) len cap), (13, .int .i64 (k : Int)), (14, .pointer (some ⟨b3, o4 + k * 8, none⟩)), (15, .agg #[.string p.name, .slice Au p.fields.length cu, .int .i64 p.skip.op, .int .i64 p.skip.k, .int .i64 p.skip.n, .string p.skip.s, .string p.skip.nm, .slice Bu mu du]), (16, .bool (memS p.fields s)), (18, .int .i64 ((k : Int) + 1)), (8, .int .i64 ((k : Int) + 1))] [] [(b3, o4 + k * 8, [.string p.name, .slice Au p.fields.length cu, .int .i64 p.skip.op, .int .i64 p.skip.k, .int .i64 p.skip.n, .string p.skip.s, .string p.skip.nm, .slice Bu mu du])]) trivial (And.intro (i64_wrap (by omega) (by omega)) (trivial)) (fun _ => by kernel_rfl) ?_
      clear hJ a w; intro a w hJ
      exact x_round ⟨k + 1, ⟨h1, (hJ.tof [] (F' := []) (by kernel_rfl)).to (by kernel_rfl) (by kernel_rfl) rfl, s2, by omega, (by rw [take_snoc' l k p hpk]; exact fun y hy => (List.mem_append.1 hy).elim (hn y) (fun e => by rw [List.mem_singleton.1 e]; exact hq))⟩, by omega⟩
  · skip
    have htk : l.take k = l := by rw [hke, ← hL, List.take_length]
    rw [htk] at hn
    refine x_false hJ (t := decide ((k : Int) < (len : Int))) (by kernel_rfl) (decide_eq_false (by omega)) ?_
    refine rx hJ false 2 [] [] (.ok (.out (.exit 0)) [] [(0, .slice A len cap), (1, .func (.func 65) #[] #[.pointer (some ⟨b, 0, none⟩)]), (7, .int .i64 (len : Int)), (8, .int .i64 (k : Int)), (9, .bool (decide ((k : Int) < (len : Int))))] [] []) trivial trivial (fun _ => by kernel_rfl) ?_
    clear hJ a w; intro a w hJ
    refine x_leave rfl ?_
    refine rx hJ false 8 [] [] (.ok (.out .ret) [] [(4, .int .i64 (-1))] [] []) trivial trivial (fun _ => by kernel_rfl) ?_
    clear hJ a w; intro a w hJ
    refine x_end (hQ [.int .i64 (-1)] _ [] hJ (.rtmp hJ.j (by kernel_rfl) .nil) (no_own _) rfl ?_).1
    exact congrArg (Value.int .i64) (fidx_none _ l hn).symm

theorem gFind_any (l : List Pg) (v : Value) (s : ByteArray) (h : Vw) (hp : IsPgs h v l) (hl : l.length ≤ 1000000) (hfl : ∀ p ∈ l, p.fields.length ≤ 1000000) : C0 Try.prog 31 #[v, .string s] h (fun r _ => r = .tuple #[.int .i64 (if findG l s < 0 then 0 else findG l s), .int .i64 (if findG l s < 0 then 5 else 0)]) := by
  obtain ⟨us, vs, A, cap, rfl, -, hr, hs, ha, -, -⟩ := pgs_open hp
  have hi := fun H b q1 q2 q3 q4 => gidxF_any s l us vs A cap b H q1 q2 q3 hl q4 hfl
  generalize findG l s = p at *
  refine x_con Try.func31 (c := Try.f31.body.getD .skip) (by kernel_rfl) (N := 13) rfl (by kernel_rfl) ?_
  intro hbx hbad Q hQ a w hJ
  replace hJ : K ⟨13, h.w, h.bad, []⟩ [(0, .slice A l.length cap), (1, .string s)] [] [] h a w := hJ.to (by kernel_rfl) (by kernel_rfl) rfl
  refine rx hJ true 11 [.fix] [] (.new fun bsn => .ok (.ops [0, 1] 2) [.seq [1, 1]] [(4, .int .i64 0), (5, .int .i64 0), (7, .slice A l.length cap), (8, .func (.func 66) #[] #[.pointer (some ⟨bsn, 0, none⟩)])] [] [(bsn, 0, [.string s])]) trivial trivial (fun bsn _ => by kernel_rfl) ?_
  clear hJ a w; intro bsn h1 a w s2 hJ
  have sn : Cells h1 bsn 0 [.string s] := hJ.f _ (List.mem_of_getElem? (i := 0) rfl)
  refine rx hJ false 11 [.cl 64 #[.slice A l.length cap, .func (.func 66) #[] #[.pointer (some ⟨bsn, 0, none⟩)]] (.int .i64 p)] [] (.ok (.code [1, 0, 1, 1]) [.seq [1, 1, 1]] [(4, .int .i64 0), (5, .int .i64 0), (6, .int .i64 p), (11, .bool (decide (p < 0)))] [] [(bsn, 0, [.string s])]) (And.intro (fun H sH => hi _ _ (hr.sees (s2.trans sH)) (hs.sees (s2.trans sH)) (ha.sees (s2.trans sH)) (sn.sees sH)) (trivial)) trivial (fun _ => by kernel_rfl) ?_
  clear hJ a w; intro a w hJ
  by_cases hp : p < 0
  · refine x_true hJ (t := decide (p < 0)) (by kernel_rfl) (decide_eq_true hp) ?_
    refine rx hJ false 8 [] [] (.ok (.out .ret) [] [(4, .int .i64 0), (5, .int .i64 5)] [] [(bsn, 0, [.string s])]) trivial trivial (fun _ => by kernel_rfl) ?_
    clear hJ a w; intro a w hJ
    refine x_end (hQ [.int .i64 0, .int .i64 5] _ [] hJ (.rtmp hJ.j (by kernel_rfl) (.rtmp hJ.j (by kernel_rfl) .nil)) (no_own _) rfl ?_).1
    rw [if_pos hp, if_pos hp]; rfl
  · skip
    refine x_false hJ (t := decide (p < 0)) (by kernel_rfl) (decide_eq_false hp) ?_
    refine rx hJ false 10 [] [] (.ok (.out .ret) [] [(4, .int .i64 p), (5, .int .i64 0)] [] [(bsn, 0, [.string s])]) trivial trivial (fun _ => by kernel_rfl) ?_
    clear hJ a w; intro a w hJ
    refine x_end (hQ [.int .i64 p, .int .i64 0] _ [] hJ (.rtmp hJ.j (by kernel_rfl) (.rtmp hJ.j (by kernel_rfl) .nil)) (no_own _) rfl ?_).1
    rw [if_neg hp, if_neg hp]; rfl


theorem gOf_any (l : List Pg) (v : Value) (s : ByteArray) (h : Vw) (hp : IsPgs h v l) (hl : l.length ≤ 1000000) (hfl : ∀ p ∈ l, p.fields.length ≤ 1000000) : C0 Try.prog 30 #[v, .string s] h (fun r _ => r = .tuple #[.int .i64 (if ofG l s < 0 then 0 else ofG l s), .int .i64 (if ofG l s < 0 then 5 else 0)]) := by
  obtain ⟨us, vs, A, cap, rfl, -, hr, hs, ha, -, -⟩ := pgs_open hp
  have hi := fun H b q1 q2 q3 q4 => gidxO_any s l us vs A cap b H q1 q2 q3 hl q4 hfl
  generalize ofG l s = p at *
  refine x_con Try.func30 (c := Try.f30.body.getD .skip) (by kernel_rfl) (N := 13) rfl (by kernel_rfl) ?_
  intro hbx hbad Q hQ a w hJ
  replace hJ : K ⟨13, h.w, h.bad, []⟩ [(0, .slice A l.length cap), (1, .string s)] [] [] h a w := hJ.to (by kernel_rfl) (by kernel_rfl) rfl
  refine rx hJ true 11 [.fix] [] (.new fun bsn => .ok (.ops [0, 1] 2) [.seq [1, 1]] [(4, .int .i64 0), (5, .int .i64 0), (7, .slice A l.length cap), (8, .func (.func 65) #[] #[.pointer (some ⟨bsn, 0, none⟩)])] [] [(bsn, 0, [.string s])]) trivial trivial (fun bsn _ => by kernel_rfl) ?_
  clear hJ a w; intro bsn h1 a w s2 hJ
  have sn : Cells h1 bsn 0 [.string s] := hJ.f _ (List.mem_of_getElem? (i := 0) rfl)
  refine rx hJ false 11 [.cl 64 #[.slice A l.length cap, .func (.func 65) #[] #[.pointer (some ⟨bsn, 0, none⟩)]] (.int .i64 p)] [] (.ok (.code [1, 0, 1, 1]) [.seq [1, 1, 1]] [(4, .int .i64 0), (5, .int .i64 0), (6, .int .i64 p), (11, .bool (decide (p < 0)))] [] [(bsn, 0, [.string s])]) (And.intro (fun H sH => hi _ _ (hr.sees (s2.trans sH)) (hs.sees (s2.trans sH)) (ha.sees (s2.trans sH)) (sn.sees sH)) (trivial)) trivial (fun _ => by kernel_rfl) ?_
  clear hJ a w; intro a w hJ
  by_cases hp : p < 0
  · refine x_true hJ (t := decide (p < 0)) (by kernel_rfl) (decide_eq_true hp) ?_
    refine rx hJ false 8 [] [] (.ok (.out .ret) [] [(4, .int .i64 0), (5, .int .i64 5)] [] [(bsn, 0, [.string s])]) trivial trivial (fun _ => by kernel_rfl) ?_
    clear hJ a w; intro a w hJ
    refine x_end (hQ [.int .i64 0, .int .i64 5] _ [] hJ (.rtmp hJ.j (by kernel_rfl) (.rtmp hJ.j (by kernel_rfl) .nil)) (no_own _) rfl ?_).1
    rw [if_pos hp, if_pos hp]; rfl
  · skip
    refine x_false hJ (t := decide (p < 0)) (by kernel_rfl) (decide_eq_false hp) ?_
    refine rx hJ false 10 [] [] (.ok (.out .ret) [] [(4, .int .i64 p), (5, .int .i64 0)] [] [(bsn, 0, [.string s])]) trivial trivial (fun _ => by kernel_rfl) ?_
    clear hJ a w; intro a w hJ
    refine x_end (hQ [.int .i64 p, .int .i64 0] _ [] hJ (.rtmp hJ.j (by kernel_rfl) (.rtmp hJ.j (by kernel_rfl) .nil)) (no_own _) rfl ?_).1
    rw [if_neg hp, if_neg hp]; rfl

theorem never_yes (nm : ByteArray) (A : Option Addr) (n c : Nat) (B : Option Addr) (d : Nat) (h : Vw) : C0 Try.prog 62 #[.agg #[.string nm, .slice A n c, .int .i64 0, .int .i64 0, .int .i64 0, .string ⟨#[]⟩, .string ⟨#[]⟩, .slice B 0 d]] h (fun r _ => r = .bool true) := by
  refine x_con Try.func62 (c := Try.f62.body.getD .skip) (by kernel_rfl) (N := 26) rfl (by kernel_rfl) ?_
  intro hbx hbad Q hQ a w hJ
  replace hJ : K ⟨26, h.w, h.bad, []⟩ [(0, .agg #[.string nm, .slice A n c, .int .i64 0, .int .i64 0, .int .i64 0, .string ⟨#[]⟩, .string ⟨#[]⟩, .slice B 0 d])] [] [] h a w := hJ.to (by kernel_rfl) (by kernel_rfl) rfl
  refine rx hJ false 28 [.own, .b 0 2, .own, .b 0 0, .b 0 0, .b 0 4, .b 0 1] [] (.new fun b1 => .new fun b2 => .ok (.ops [0, 1, 1] 12) [.seq [1, 1, 1]] [(2, .bool false), (3, .pointer (some ⟨b2, 0, none⟩)), (14, .bool true), (16, .agg #[.int .i64 0, .int .i64 0, .string ⟨#[]⟩]), (17, .agg #[.int .i64 0, .int .i64 0, .string ⟨#[]⟩])] [.box b2 [.int .i64 0, .int .i64 0, .int .i64 0, .string ⟨#[]⟩, .string ⟨#[]⟩, .slice B 0 d], .box b1 [.string nm, .slice A n c, .int .i64 0, .int .i64 0, .int .i64 0, .string ⟨#[]⟩, .string ⟨#[]⟩, .slice B 0 d]] []) trivial trivial (fun b1 b2 _ => by kernel_rfl) ?_
  clear hJ a w; intro b1 b2 a w hJ
  refine x_pure hJ 18 (.bool true) (by kernel_rfl) (fun w => run_eqop (x := (.tmp 16)) (y := (.tmp 17)) (v := (⟨0, 0, ⟨#[]⟩⟩ : Vl)) (w := (⟨0, 0, ⟨#[]⟩⟩ : Vl)) (by kernel_rfl) (by kernel_rfl) (by kernel_rfl) (eqB_iff.2 rfl)) ?_; clear hJ a w; intro a w hJ
  refine rx hJ false 11 [.b 0 5] [] (.ok (.out .ret) [] [(2, .bool true)] [.box b2 [.int .i64 0, .int .i64 0, .int .i64 0, .string ⟨#[]⟩, .string ⟨#[]⟩, .slice B 0 d], .box b1 [.string nm, .slice A n c, .int .i64 0, .int .i64 0, .int .i64 0, .string ⟨#[]⟩, .string ⟨#[]⟩, .slice B 0 d]] []) trivial trivial (fun _ => by kernel_rfl) ?_
  clear hJ a w; intro a w hJ
  refine x_end (hQ [.bool true] _ [] hJ (.rtmp hJ.j (by kernel_rfl) .nil) (no_own _) rfl ?_).1
  exact rfl
theorem never_no (nm : ByteArray) (x : Ex) (A : Option Addr) (n c : Nat) (B : Option Addr) (m d : Nat) (h : Vw) (hx : x.op ≠ 0) : C0 Try.prog 62 #[.agg #[.string nm, .slice A n c, .int .i64 x.op, .int .i64 x.k, .int .i64 x.n, .string x.s, .string x.nm, .slice B m d]] h (fun r _ => r = .bool false) := by
  refine x_con Try.func62 (c := Try.f62.body.getD .skip) (by kernel_rfl) (N := 26) rfl (by kernel_rfl) ?_
  intro hbx hbad Q hQ a w hJ
  replace hJ : K ⟨26, h.w, h.bad, []⟩ [(0, .agg #[.string nm, .slice A n c, .int .i64 x.op, .int .i64 x.k, .int .i64 x.n, .string x.s, .string x.nm, .slice B m d])] [] [] h a w := hJ.to (by kernel_rfl) (by kernel_rfl) rfl
  refine rx hJ false 40 [.own, .b 0 2, .own, .b 0 0, .b 0 0] [(8, .bool (x.op == 0), .bool false)] (.new fun b1 => .new fun b2 => .ok (.out .ret) [] [(2, .bool false)] [.box b2 [.int .i64 x.op, .int .i64 x.k, .int .i64 x.n, .string x.s, .string x.nm, .slice B m d], .box b1 [.string nm, .slice A n c, .int .i64 x.op, .int .i64 x.k, .int .i64 x.n, .string x.s, .string x.nm, .slice B m d]] []) trivial (And.intro (congrArg Value.bool (beq_eq_false_iff_ne.2 hx)) (trivial)) (fun b1 b2 _ => by kernel_rfl) ?_
  clear hJ a w; intro b1 b2 a w hJ
  refine x_end (hQ [.bool false] _ [] hJ (.rtmp hJ.j (by kernel_rfl) .nil) (no_own _) rfl ?_).1
  exact rfl

end Go.Proofs.Ytgjndkphfabnnaa

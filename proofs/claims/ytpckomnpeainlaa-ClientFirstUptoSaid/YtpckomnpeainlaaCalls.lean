/-
  Slices of calls: what they hold; the contract of client.Next: the least time of those that ask.
-/
import Derived.Test.YtpckomnpeainlaaCallD
import Derived.Test.YtpckomnpeainlaaRaws
import Derived.Test.YtpckomnpeainlaaRegion
import Derived.Laws.AppendOwn
import Derived.Laws.OwnMore
import Derived.OwnWalk
namespace Go.Proofs.Ytpckomnpeainlaa
open Go.RowKit

/-- One call. -/
structure CallR where
  st : Int
  id : Int
  tr : Int
  kk : Int
  kn : Int
  ks : ByteArray
  hk : Int
  hn : Int
  hs : ByteArray
  nx : Int

@[reducible] def CallR.cells (d : CallR) : List Value := [.int .i64 d.st, .int .i64 d.id, .int .i64 d.tr, .int .i64 d.kk, .int .i64 d.kn, .string d.ks, .int .i64 d.hk, .int .i64 d.hn, .string d.hs, .int .i64 d.nx]
@[reducible] def CallR.val (d : CallR) : Value := .agg #[.int .i64 d.st, .int .i64 d.id, .int .i64 d.tr, .int .i64 d.kk, .int .i64 d.kn, .string d.ks, .int .i64 d.hk, .int .i64 d.hn, .string d.hs, .int .i64 d.nx]

/-- A slice of rows of k cells each, below the heap's end. -/
def IsRows (w : World) (k : Nat) (v : Value) (l : List (List Value)) : Prop :=
  ∃ (A : Option Addr) (cap : Nat), v = .slice A l.length cap ∧ l.length ≤ cap ∧
    (l = [] ∨ ∃ b off, A = some ⟨b, off, none⟩ ∧ b < w.heap.size ∧ ∀ i r, l[i]? = some r → ∀ j u, r[j]? = some u → w.cell? ⟨b, off + i * k + j, none⟩ = some u)

theorem IsRows.keep {w w' : World} {k : Nat} {v : Value} {l : List (List Value)} (h : IsRows w k v l) (hb : Below w.heap.size w w') : IsRows w' k v l := by
  obtain ⟨A, cap, e, hc, hr⟩ := h
  refine ⟨A, cap, e, hc, ?_⟩
  rcases hr with hr | ⟨b, off, e, hlt, hr⟩
  · exact .inl hr
  · exact .inr ⟨b, off, e, Nat.lt_of_lt_of_le hlt hb.size, fun i r hi j u hj => (hb.cell (p := ⟨b, off + i * k + j, none⟩) hlt).trans (hr i r hi j u hj)⟩
theorem IsRows.alloc {w : World} {k : Nat} {v : Value} {l : List (List Value)} (h : IsRows w k v l) (o : Obj) : IsRows (w.alloc o) k v l :=
  h.keep ((Below.refl _ _).alloc (Nat.le_refl _) _)

/-- A row of the call's own. -/
structure Own (w : World) (base : Nat) (e : TypeId) (size : Nat) (v : Value) (n : Nat) (xs : List Value) : Prop where
  own : w.ownsRow base e size v n xs

theorem Own.keep {w w' : World} {base : Nat} {e : TypeId} {size : Nat} {v : Value} {n : Nat} {xs : List Value} (h : Own w base e size v n xs) (hb : Below w.heap.size w w') : Own w' base e size v n xs := by
  obtain ⟨hl, hn | ⟨g, cap, cur, rfl, hbg, hgg, rest⟩⟩ := h
  · exact ⟨hl, .inl hn⟩
  · refine ⟨hl, .inr ⟨g, cap, cur, rfl, hbg, ?_, rest⟩⟩
    rw [hb.block g (Array.getElem?_eq_some_iff.1 hgg).1]
    exact hgg
theorem Own.alloc {w : World} {base : Nat} {e : TypeId} {size : Nat} {v : Value} {n : Nat} {xs : List Value} (h : Own w base e size v n xs) (o : Obj) : Own (w.alloc o) base e size v n xs :=
  h.keep ((Below.refl _ _).alloc (Nat.le_refl _) _)
theorem Own.block {w : World} {base : Nat} {e : TypeId} {size : Nat} {v : Value} {n : Nat} {xs : List Value} (h : Own w base e size v n xs) {g : Nat} (hg : v.ownBlock = some g) : base ≤ g := (h.own.lt g hg).1

theorem Own.only {w w' : World} {base : Nat} {e : TypeId} {size : Nat} {v : Value} {n : Nat} {xs : List Value} {g : Nat} (h : Own w base e size v n xs) (ho : OnlyAt g w w') (hne : ∀ k, v.ownBlock = some k → k ≠ g) : Own w' base e size v n xs := by
  obtain ⟨hl, hn | ⟨g', cap, cur, rfl, hbg, hgg, rest⟩⟩ := h
  · exact ⟨hl, .inl hn⟩
  · refine ⟨hl, .inr ⟨g', cap, cur, rfl, hbg, ?_, rest⟩⟩
    rw [ho.block g' (hne g' rfl)]
    exact hgg

/-- What grows by a row of the call's own leaves the rest. -/
theorem grown_below {w w' : World} {base : Nat} {e : TypeId} {size : Nat} {v : Value} {n : Nat} {xs : List Value} (h : Own w base e size v n xs) (hg : w.grownBy w' v.ownBlock) (hb : base ≤ w.heap.size) : Below base w w' :=
  ⟨hg.os, hg.tape, hg.output, hg.size, fun k hk => hg.block k (by omega) (fun e => by have := h.block e.symm; omega)⟩
theorem Box.low {w w' : World} {b B : Nat} {vs : List Value} (h : Box w b vs) (hb : Below B w w') (hB : b < B) : Box w' b vs :=
  ⟨Nat.lt_of_lt_of_le h.lt hb.size, fun i v hv => (hb.cell (p := ⟨b, i, none⟩) hB).trans (h.cells i v hv), fun i => (hb.frozen (p := ⟨b, i, none⟩) hB).trans (h.free i)⟩
theorem box_add {w : World} {b : Nat} {vs : List Value} (h : Box w b vs) : ∀ j u, vs[j]? = some u → w.cell? ((⟨b, 0, none⟩ : Addr).add j) = some u := by
  intro j u hj
  have := h.cells j u hj
  unfold Addr.add
  split
  · simp_all
  · simpa using this

theorem flat_get {k : Nat} : ∀ (l : List (List Value)), (∀ r ∈ l, r.length = k) → ∀ i r j u, l[i]? = some r → r[j]? = some u → l.flatten[i * k + j]? = some u
  | [], _, i, r, j, u, h, _ => by simp at h
  | x :: l, hk, 0, r, j, u, h, hj => by
    simp at h; subst h
    rw [List.flatten_cons, Nat.zero_mul, Nat.zero_add, List.getElem?_append_left (by have := (List.getElem?_eq_some_iff.1 hj).1; exact this)]
    exact hj
  | x :: l, hk, i + 1, r, j, u, h, hj => by
    have hx := hk x (by simp)
    rw [List.flatten_cons, List.getElem?_append_right (by rw [hx, Nat.succ_mul]; omega), hx, show (i + 1) * k + j - k = i * k + j by rw [Nat.succ_mul]; omega]
    exact flat_get l (fun r hr => hk r (by simp [hr])) i r j u (by simpa using h) hj

/-- A row of the call's own reads so. -/
theorem IsRows.of_own {w : World} {base k : Nat} {e : TypeId} {v : Value} {l : List (List Value)} (hk : ∀ r ∈ l, r.length = k) (h : Own w base e k v l.length l.flatten) : IsRows w k v l := by
  obtain ⟨h⟩ := h
  rcases h.2 with ⟨rfl, h0⟩ | ⟨g, cap, cur, rfl, hb, hg, hn, hm, hs, ht⟩
  · exact ⟨none, 0, by rw [h0], by omega, .inl (List.length_eq_zero_iff.1 h0)⟩
  · refine ⟨some ⟨g, 0, none⟩, cap, rfl, hn, .inr ⟨g, 0, rfl, (Array.getElem?_eq_some_iff.1 hg).1, fun i r hi j u hj => ?_⟩⟩
    have hf := flat_get l hk i r j u hi hj
    have := h.cells (g := g) rfl (i * k + j) u hf
    rw [show ((⟨g, 0, none⟩ : Addr).add (i * k + j)) = ⟨g, 0 + i * k + j, none⟩ from by unfold Addr.add; split <;> simp_all <;> omega] at this
    exact this

theorem raws_rows {w : World} {v : Value} {l : List RawD} (h : IsRaws w v l) : IsRows w 4 v (l.map fun r => [.int .i64 r.k, .int .i64 r.a, .int .i64 r.b, .string r.t]) := by
  obtain ⟨A, cap, rfl, hc, -, -, hr⟩ := h
  refine ⟨A, cap, by rw [List.length_map], by rw [List.length_map]; exact hc, ?_⟩
  rcases hr with rfl | ⟨b, off, e, hlt, hr⟩
  · exact .inl rfl
  · refine .inr ⟨b, off, e, hlt, fun i r hi j u hj => ?_⟩
    rw [List.getElem?_map] at hi
    cases hx : l[i]? with
    | none => rw [hx] at hi; simp at hi
    | some x =>
      rw [hx] at hi
      simp at hi
      subst hi
      obtain ⟨c0, c1, c2, c3⟩ := hr i x hx
      rw [show off + 4 * i = off + i * 4 by omega] at c0 c1 c2 c3
      match j, hj with
      | 0, hj => simp at hj; subst hj; exact c0
      | 1, hj => simp at hj; subst hj; exact c1
      | 2, hj => simp at hj; subst hj; exact c2
      | 3, hj => simp at hj; subst hj; exact c3
      | j + 4, hj => simp at hj

/-- The least time of those that ask. -/
def stepF (acc : Option Int) (d : CallR) : Option Int :=
  if d.st = 1 then (match acc with | none => some d.nx | some m => if d.nx < m then some d.nx else some m) else acc
def nextF (l : List CallR) : Option Int := l.foldl stepF none

theorem nextF_snoc (l : List CallR) (d : CallR) : nextF (l ++ [d]) = stepF (nextF l) d := by simp [nextF]

/-- The loop's two variables. -/
def NextAt (o : Option Int) (a s : Value) : Prop := (o = none ∧ a = .int .i64 0 ∧ s = .bool false) ∨ (∃ m, o = some m ∧ a = .int .i64 m ∧ s = .bool true)
def nextV : Option Int → Value
  | none => .tuple #[.int .i64 0, .int .i64 5]
  | some m => .tuple #[.int .i64 m, .int .i64 0]

theorem take_snoc' {α : Type} (l : List α) (k : Nat) (x : α) (h : l[k]? = some x) : l.take (k + 1) = l.take k ++ [x] := by
  rw [List.take_add_one, h]; rfl

set_option maxRecDepth 100000 in
set_option maxHeartbeats 2000000 in
theorem next_any (v : Value) (ds : List CallR) (w : World) (h : IsRows w 10 v (ds.map CallR.cells)) (hl : ds.length ≤ 9223372036854775806) :
    Calls Try.prog 35 #[v] w (Gives (nextV (nextF ds)) w) := by
  obtain ⟨A, cap, rfl, hcap, hr⟩ := h
  rw [List.length_map] at *
  have HR := Lib.hid hr
  clear hr
  go_enter Try.func35, Try.ntmps35
  go_wp2_with fail
  go_loopw [4, 5, 10] (fun at_ some_ n wr => ∃ k : Nat, k ≤ ds.length ∧ n = .int .i64 k ∧ NextAt (nextF (ds.take k)) at_ some_ ∧ Below w.heap.size w wr) (fun _ _ n _ => ds.length - (intOf n).toNat)
  case atStart => exact ⟨0, Nat.zero_le _, rfl, .inl ⟨rfl, rfl, rfl⟩, Below.refl _ _⟩
  case round =>
    obtain ⟨k, hk, rfl, hat, hb⟩ := hrel
    by_cases hlt : k < ds.length
    · obtain ⟨d, hd⟩ : ∃ d, ds[k]? = some d := ⟨_, List.getElem?_eq_getElem hlt⟩
      have hs := take_snoc' ds k d hd
      have hn := nextF_snoc (ds.take k) d
      rw [← hs] at hn
      have HN := Lib.hid hn
      obtain ⟨b, off, rfl, hbl, hc⟩ : ∃ b off, A = some ⟨b, off, none⟩ ∧ b < w.heap.size ∧ ∀ j u, d.cells[j]? = some u → w.cell? ⟨b, off + k * 10 + j, none⟩ = some u := by
        rcases HR.out with h0 | ⟨b, off, e, hbl, hc⟩
        · simp at h0; subst h0; simp at hlt
        · exact ⟨b, off, e, hbl, hc k _ (by rw [List.getElem?_map, hd]; rfl)⟩
      have c0 : _ = some _ := (hb.cell (p := ⟨b, off + k * 10, none⟩) hbl).trans (hc 0 _ rfl)
      have c1 : _ = some _ := (hb.cell (p := ⟨b, off + k * 10 + 1, none⟩) hbl).trans (hc 1 _ rfl)
      have c2 : _ = some _ := (hb.cell (p := ⟨b, off + k * 10 + 2, none⟩) hbl).trans (hc 2 _ rfl)
      have c3 : _ = some _ := (hb.cell (p := ⟨b, off + k * 10 + 3, none⟩) hbl).trans (hc 3 _ rfl)
      have c4 : _ = some _ := (hb.cell (p := ⟨b, off + k * 10 + 4, none⟩) hbl).trans (hc 4 _ rfl)
      have c5 : _ = some _ := (hb.cell (p := ⟨b, off + k * 10 + 5, none⟩) hbl).trans (hc 5 _ rfl)
      have c6 : _ = some _ := (hb.cell (p := ⟨b, off + k * 10 + 6, none⟩) hbl).trans (hc 6 _ rfl)
      have c7 : _ = some _ := (hb.cell (p := ⟨b, off + k * 10 + 7, none⟩) hbl).trans (hc 7 _ rfl)
      have c8 : _ = some _ := (hb.cell (p := ⟨b, off + k * 10 + 8, none⟩) hbl).trans (hc 8 _ rfl)
      have c9 : _ = some _ := (hb.cell (p := ⟨b, off + k * 10 + 9, none⟩) hbl).trans (hc 9 _ rfl)
      clear hs hn hd hc
      obtain ⟨st, id, tr, kk, kn, ks, hk', hn', hs', nx⟩ := d
      simp only at c0 c1 c2 c3 c4 c5 c6 c7 c8 c9
      have hb2 := Lib.hid hb
      by_cases h1 : st = 1
      · subst h1
        rcases hat with ⟨e0, rfl, rfl⟩ | ⟨m, e0, rfl, rfl⟩
        · have e1 : nextF (ds.take (k + 1)) = some nx := by rw [HN.out, e0]; rfl
          have HE := Lib.hid e1
          clear e0 e1
          go_wp2_with fail
          go_roundw
          case rel => exact ⟨k + 1, by omega, by go_num, .inr ⟨nx, HE.out, rfl, rfl⟩, hb2.out.alloc hb2.out.size _⟩
          case measure => simp [intOf]; omega
        · by_cases h2 : nx < m
          · have e1 : nextF (ds.take (k + 1)) = some nx := by rw [HN.out, e0]; simp [stepF, h2]
            have HE := Lib.hid e1
            clear e0 e1
            go_wp2_with fail
            go_roundw
            case rel => exact ⟨k + 1, by omega, by go_num, .inr ⟨nx, HE.out, rfl, rfl⟩, hb2.out.alloc hb2.out.size _⟩
            case measure => simp [intOf]; omega
          · have e1 : nextF (ds.take (k + 1)) = some m := by rw [HN.out, e0]; simp [stepF, h2]
            have HE := Lib.hid e1
            clear e0 e1
            go_wp2_with fail
            go_roundw
            case rel => exact ⟨k + 1, by omega, by go_num, .inr ⟨m, HE.out, rfl, rfl⟩, hb2.out.alloc hb2.out.size _⟩
            case measure => simp [intOf]; omega
      · have e1 : nextF (ds.take (k + 1)) = nextF (ds.take k) := by rw [HN.out]; simp [stepF, h1]
        have HE := Lib.hid e1
        have HAT := Lib.hid hat
        have h1' : (st == 1) = false := beq_eq_false_iff_ne.2 h1
        clear e1 hat h1
        go_wp2_with fail
        go_roundw
        case rel => exact ⟨k + 1, by omega, by go_num, by rw [HE.out]; exact HAT.out, hb2.out.alloc hb2.out.size _⟩
        case measure => simp [intOf]; omega
    · have hkn : k = ds.length := by omega
      subst hkn
      rw [List.take_length] at hat
      rcases hat with ⟨e0, rfl, rfl⟩ | ⟨m, e0, rfl, rfl⟩
      · have HE := Lib.hid e0
        clear e0
        go_wp2_with fail
        go_ret2
        exact ⟨by rw [HE.out]; rfl, hb⟩
      · have HE := Lib.hid e0
        clear e0
        go_wp2_with fail
        go_ret2
        exact ⟨by rw [HE.out]; rfl, hb⟩

def anyAt (l : List CallR) (m : Int) : Bool := l.any fun d => d.st == 1 && d.nx == m
theorem anyAt_snoc (l : List CallR) (d : CallR) (m : Int) : anyAt (l ++ [d]) m = (anyAt l m || (d.st == 1 && d.nx == m)) := by simp [anyAt]

/-- What the least time is. -/
def NextIs (l : List CallR) (o : Option Int) : Prop := (o = none ∧ ∀ d ∈ l, d.st ≠ 1) ∨ ∃ m, o = some m ∧ anyAt l m = true ∧ ∀ d ∈ l, d.st = 1 → m ≤ d.nx

theorem nextIs_step (l : List CallR) (o : Option Int) (d : CallR) (h : NextIs l o) : NextIs (l ++ [d]) (stepF o d) := by
  by_cases h1 : d.st = 1
  · rcases h with ⟨rfl, h⟩ | ⟨m, rfl, ha, h⟩
    · refine .inr ⟨d.nx, by simp [stepF, h1], by rw [anyAt_snoc]; simp [h1], fun x hx hs => ?_⟩
      rcases List.mem_append.1 hx with hx | hx
      · exact (h x hx hs).elim
      · simp at hx; subst hx; omega
    · by_cases h2 : d.nx < m
      · refine .inr ⟨d.nx, by simp [stepF, h1, h2], by rw [anyAt_snoc]; simp [h1], fun x hx hs => ?_⟩
        rcases List.mem_append.1 hx with hx | hx
        · have := h x hx hs; omega
        · simp at hx; subst hx; omega
      · refine .inr ⟨m, by simp [stepF, h1, h2], by rw [anyAt_snoc, ha]; rfl, fun x hx hs => ?_⟩
        rcases List.mem_append.1 hx with hx | hx
        · exact h x hx hs
        · simp at hx; subst hx; omega
  · have e : stepF o d = o := by simp [stepF, h1]
    rw [e]
    rcases h with ⟨rfl, h⟩ | ⟨m, rfl, ha, h⟩
    · refine .inl ⟨rfl, fun x hx => ?_⟩
      rcases List.mem_append.1 hx with hx | hx
      · exact h x hx
      · simp at hx; subst hx; exact h1
    · refine .inr ⟨m, rfl, by rw [anyAt_snoc, ha]; rfl, fun x hx hs => ?_⟩
      rcases List.mem_append.1 hx with hx | hx
      · exact h x hx hs
      · simp at hx; subst hx; exact (h1 hs).elim

theorem nextIs_fold : ∀ (l pre : List CallR) (o : Option Int), NextIs pre o → NextIs (pre ++ l) (l.foldl stepF o)
  | [], pre, o, h => by simpa using h
  | d :: l, pre, o, h => by
    have := nextIs_fold l (pre ++ [d]) (stepF o d) (nextIs_step pre o d h)
    simpa using this
theorem nextIs (l : List CallR) : NextIs l (nextF l) := by
  have := nextIs_fold l [] none (.inl ⟨rfl, by simp⟩)
  simpa [nextF] using this

theorem one_row (w : World) (cs : Array Value) (t : TypeId) (n : Nat) : IsRows (w.alloc (.cells cs t)) n (.slice (some ⟨w.heap.size, 0, none⟩) 1 1) [cs.toList] := by
  refine ⟨some ⟨w.heap.size, 0, none⟩, 1, rfl, by simp, .inr ⟨w.heap.size, 0, rfl, by simp, fun i r hi j u hj => ?_⟩⟩
  have hi0 : i = 0 := by
    have := (List.getElem?_eq_some_iff.1 hi).1; simp at this; exact this
  subst hi0
  simp at hi
  subst hi
  have := (Box.new w cs t).cells j u hj
  simpa using this

end Go.Proofs.Ytpckomnpeainlaa

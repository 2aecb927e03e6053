/-
  How a law's arguments of type Raw and []Raw are opened: what the walk is told of them. (open_slice_fields is the guide's own block for copying.)
-/
import Derived.Test.YthgcgciceejicaaLaw
import Derived.Deep.Slices
import Derived.Deep.Fields
import Derived.ChangeSame
import Derived.Lib.SmallJoins
namespace Go.Proofs.Ythgcgciceejicaa
open Go.ChangeShapes Go.WideShapes Go.ChangeAt Go.RowKit Go.Deep

section
variable {H : Type} {enc : TypeId × Value → H} {P : Program} {w : World} {base : Nat} {spare : Nat → Bool} {held : Bool}
theorem open_slice_fields {t e : TypeId} {fs : Array Field} {fuel : Nat} {cs : List Value} {x : DataW H × List MemPlace} (ht : P.underlying t = some (.slice e)) (he : P.underlying e = some (.struct fs))
    (hone : oneCellFields P fs = true) (hC : P.cellsOf e = fs.size) (h : DataW.trod enc P w base spare held fuel t cs = some x) :
    (cs = [.slice none 0 0] ∧ x = (.nil, [])) ∨
    ∃ (a : Addr) (len cap m : Nat) (D : Nat → DataW H) (Pl : Nat → List MemPlace), cs = [.slice (some a) len cap] ∧ base ≤ a.block ∧ len ≤ cap ∧ cap ≤ maxLen ∧ m = (if spare a.block then cap else len) ∧
      x = (.slice ((List.range len).map D) ((List.range (m - len)).map fun j => D (len + j)), MemPlace.row a (m * fs.size) ++ (List.range m).flatMap Pl) ∧
      ∀ i, i < m → ∃ (ys : List (DataW H × List MemPlace)) (n : Nat), D i = .agg (ys.map (·.1)) ∧ Pl i = ys.flatMap (·.2) ∧ ys.length = fs.size ∧
        ∀ (j : Nat) (f : Field), fs[j]? = some f → ∃ (v : Value) (y : DataW H × List MemPlace), w.cell? (a.add (i * fs.size + j)) = some v ∧ ys[j]? = some y ∧ DataW.trod enc P w base spare held n f.type [v] = some y := by
  rcases open_slice ht h with h0 | ⟨a, len, cap, m, n, D, Pl, hcs, hb, hl, hm, hmm, hx, hi⟩
  · exact .inl h0
  · refine .inr ⟨a, len, cap, m, D, Pl, hcs, hb, hl, hm, hmm, by rw [hC] at hx; exact hx, fun i him => ?_⟩
    obtain ⟨cs', hc, ht'⟩ := hi i him
    rw [hC] at hc
    obtain ⟨ys, n', hn', hy, hlen, hyl, hf⟩ := DataW.trod_struct he ht'
    obtain ⟨_, hcl, hat⟩ := World.cells?_some hc
    simp only [Prod.mk.injEq] at hy
    refine ⟨ys, n', hy.1, hy.2, hyl, fun j f hj => ?_⟩
    obtain ⟨ho, hk⟩ := hone_of hone j f hj
    have hjl : j < fs.size := (Array.getElem?_eq_some_iff.1 hj).1
    have hcell := hat j hjl
    have hv : cs'[j]? = some (cs'[j]'(by omega)) := List.getElem?_eq_getElem (by omega)
    have h1 := hf j f hj
    rw [ho, hk] at h1
    have hone' : (cs'.drop j).take 1 = [cs'[j]'(by omega)] := by
      rw [List.drop_eq_getElem_cons (by omega)]
      rfl
    rw [hone'] at h1
    have hys : ys[j]? = some (ys[j]'(by omega)) := List.getElem?_eq_getElem (by omega)
    refine ⟨_, _, ?_, hys, h1.trans hys⟩
    rw [← Go.Deep.add_add, hcell, hv]
end

/-- One raw thing. -/
structure RawD where
  k : Int
  a : Int
  b : Int
  t : ByteArray

def RawD.ok (r : RawD) : Prop :=
  (-9223372036854775808 ≤ r.k ∧ r.k ≤ 9223372036854775807) ∧ (-9223372036854775808 ≤ r.a ∧ r.a ≤ 9223372036854775807) ∧ (-9223372036854775808 ≤ r.b ∧ r.b ≤ 9223372036854775807) ∧ r.t.size ≤ maxLen

@[reducible] def RawD.val (r : RawD) : Value := .agg #[.int .i64 r.k, .int .i64 r.a, .int .i64 r.b, .string r.t]

/-- The slice v holds the raw things l, below the heap's end. -/
def IsRaws (w : World) (v : Value) (l : List RawD) : Prop :=
  ∃ (A : Option Addr) (cap : Nat), v = .slice A l.length cap ∧ l.length ≤ cap ∧ cap * 40 ≤ reachBytes ∧ (∀ r ∈ l, r.ok) ∧
    (l = [] ∨ ∃ b off, A = some ⟨b, off, none⟩ ∧ b < w.heap.size ∧ ∀ i r, l[i]? = some r →
      w.cell? ⟨b, off + 4 * i, none⟩ = some (.int .i64 r.k) ∧ w.cell? ⟨b, off + 4 * i + 1, none⟩ = some (.int .i64 r.a) ∧ w.cell? ⟨b, off + 4 * i + 2, none⟩ = some (.int .i64 r.b) ∧ w.cell? ⟨b, off + 4 * i + 3, none⟩ = some (.string r.t))

theorem cellsRaw : Try.prog.cellsOf 48 = 4 := by kernel_rfl
theorem bytesRaw : Try.prog.bytesOf 48 = 40 := by kernel_rfl

section
variable {H : Type} {enc : TypeId × Value → H} {w : World} {base : Nat} {sp : Nat → Bool} {held : Bool}

set_option maxRecDepth 100000 in
theorem open_raw {r : Reach} {b0 : Nat} {v : Value} {d : DataW H} {p : List MemPlace} (hv : Value.okWide Try.prog w r b0 48 v) (h : DataW.Trod enc Try.prog w base sp held 48 v d p) :
    ∃ x : RawD, v = x.val ∧ x.ok := by
  obtain ⟨v0, v1, v2, v3, y0, y1, y2, y3, n, rfl, -, -, h0, h1, h2, h3⟩ := Go.Joins.open_agg4 Try.underlying48 (by kernel_rfl) cellsRaw hv h
  obtain ⟨n0, e0, -, w0⟩ := DataW.trod_int Try.underlying3 h0
  obtain ⟨n1, e1, -, w1⟩ := DataW.trod_int Try.underlying3 h1
  obtain ⟨n2, e2, -, w2⟩ := DataW.trod_int Try.underlying3 h2
  obtain ⟨s, e3, -, w3⟩ := DataW.trod_string Try.underlying9 h3
  simp only [List.cons.injEq, and_true] at e0 e1 e2 e3
  subst e0 e1 e2 e3
  exact ⟨⟨n0, n1, n2, s⟩, rfl, ⟨int_lo w0, int_hi w0⟩, ⟨int_lo w1, int_hi w1⟩, ⟨int_lo w2, int_hi w2⟩, w3⟩

set_option maxRecDepth 100000 in
theorem open_raws {r : Reach} {b0 : Nat} {v : Value} {d : DataW H} {p : List MemPlace} (hv : Value.okWide Try.prog w r b0 22 v) (h : DataW.Trod enc Try.prog w 0 (fun _ => true) held 22 v d p)
    (hz : ∀ es ss, d = .slice es ss → (es.length + ss.length) * Try.prog.bytesOf 48 ≤ reachBytes) : ∃ l, IsRaws w v l := by
  obtain ⟨a, len, cap, rfl⟩ := okWide_slice Try.underlying22 hv
  obtain ⟨fuel, hf⟩ := h
  rcases open_slice_fields Try.underlying22 Try.underlying48 (by kernel_rfl) cellsRaw hf with ⟨hcs, _⟩ | ⟨x, l, c, m, D, Pl, hcs, _, hl, hm, hmm, hx, hi⟩
  · simp [Value.cells] at hcs
    obtain ⟨rfl, rfl, rfl⟩ := hcs
    exact ⟨[], none, 0, rfl, Nat.le_refl _, by simp, by simp, .inl rfl⟩
  · simp [Value.cells] at hcs
    obtain ⟨rfl, rfl, rfl⟩ := hcs
    simp only [Prod.mk.injEq] at hx
    have hw := hz _ _ hx.1
    rw [bytesRaw] at hw
    simp at hmm
    subst hmm
    simp only [List.length_map, List.length_range] at hw
    have hcap : m * 40 ≤ reachBytes := by rw [show len + (m - len) = m by omega] at hw; exact hw
    have one : ∀ i, i < len → ∃ q : RawD, q.ok ∧ w.cell? (x.add (i * 4)) = some (.int .i64 q.k) ∧ w.cell? (x.add (i * 4 + 1)) = some (.int .i64 q.a) ∧ w.cell? (x.add (i * 4 + 2)) = some (.int .i64 q.b) ∧ w.cell? (x.add (i * 4 + 3)) = some (.string q.t) := by
      intro i hlt
      obtain ⟨ys, n, -, -, -, hf⟩ := hi i (by omega)
      obtain ⟨v0, y0, c0, -, t0⟩ := hf 0 _ rfl
      obtain ⟨v1, y1, c1, -, t1⟩ := hf 1 _ rfl
      obtain ⟨v2, y2, c2, -, t2⟩ := hf 2 _ rfl
      obtain ⟨v3, y3, c3, -, t3⟩ := hf 3 _ rfl
      obtain ⟨n0, e0, -, w0⟩ := DataW.trod_int Try.underlying3 t0
      obtain ⟨n1, e1, -, w1⟩ := DataW.trod_int Try.underlying3 t1
      obtain ⟨n2, e2, -, w2⟩ := DataW.trod_int Try.underlying3 t2
      obtain ⟨s, e3, -, w3⟩ := DataW.trod_string Try.underlying9 t3
      simp only [List.cons.injEq, and_true] at e0 e1 e2 e3
      subst e0 e1 e2 e3
      exact ⟨⟨n0, n1, n2, s⟩, ⟨⟨int_lo w0, int_hi w0⟩, ⟨int_lo w1, int_hi w1⟩, ⟨int_lo w2, int_hi w2⟩, w3⟩, c0, c1, c2, c3⟩
    haveI : Inhabited RawD := ⟨⟨0, 0, 0, ByteArray.empty⟩⟩
    obtain ⟨f, hfn⟩ := choose_lt one
    refine ⟨(List.range len).map f, some x, m, by simp, by simpa using hl, hcap, ?_, ?_⟩
    · intro r hr
      obtain ⟨i, hi', rfl⟩ := List.mem_map.1 hr
      exact (hfn i (by simpa using hi')).1
    · rcases Nat.eq_zero_or_pos len with h0 | hpos
      · left; subst h0; rfl
      · right
        have c0 := (hfn 0 hpos).2.1
        obtain ⟨b, off, spot⟩ := x
        have hb : b < w.heap.size := World.block_lt_of_cell? w ⟨b, off, spot⟩ (by simpa [Addr.add] using c0)
        have hs : spot = none := by
          cases spot with
          | none => rfl
          | some k =>
            exfalso
            simp only [Nat.zero_mul, Addr.add, if_true] at c0
            unfold World.cell? at c0
            split at c0 <;> simp at c0
        subst hs
        refine ⟨b, off, rfl, hb, fun i r hr => ?_⟩
        have hlt : i < len := by
          have := (List.getElem?_eq_some_iff.1 hr).1; simpa using this
        have e : f i = r := by simpa [hlt] using hr
        subst e
        obtain ⟨-, k0, k1, k2, k3⟩ := hfn i hlt
        have ad : ∀ n, (⟨b, off, none⟩ : Addr).add n = ⟨b, off + n, none⟩ := by intro n; unfold Addr.add; split <;> simp_all
        rw [ad] at k0 k1 k2 k3
        rw [show off + 4 * i = off + i * 4 by omega]
        exact ⟨k0, k1, k2, k3⟩
end

end Go.Proofs.Ythgcgciceejicaa

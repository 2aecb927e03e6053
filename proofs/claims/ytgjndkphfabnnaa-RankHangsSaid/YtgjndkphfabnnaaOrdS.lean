/-
  slices.SortStableFunc at places, by their ranks: a row of the caller's own, fewer than twenty. (Imports the seat's Ins text: wip/ins.sh.)
-/
import Derived.Test.YtgjndkphfabnnaaRankO
import Derived.Test.YtgjndkphfabnnaaRevF
import Derived.Test.YtgjndkphfabnnaaIns
import Derived.Sort.LotA
import Derived.BigQuiet
import Derived.Deep.QuietTactic
namespace Go.Proofs.Ytgjndkphfabnnaa
open Go.RowKit Go.Sort Go.Shelf
set_option linter.unusedVariables false

set_option maxHeartbeats 1000000 in
theorem ordc_any {n : Nat} (ρ : List Int) (b bR x y : Nat) (hx : x < n) (hy : y < n) (w : World) (hR : w.cell? ⟨bR, 0, none⟩ = some (.slice (some ⟨b, 0, none⟩) n n)) (hc : ∀ i, i < n → w.cell? ⟨b, i, none⟩ = some (.int .i64 (ρ.getD i 0))) :
    Calls Try.prog 85 #[.int .i64 (x : Int), .int .i64 (y : Int), .pointer (some ⟨bR, 0, none⟩)] w fun e w' => e = .returned (.int .i64 (cmpI (ρ.getD x 0) (ρ.getD y 0))) ∧ ∃ q, w' = w.drewN q := by
  have cx := hc x hx
  have cy := hc y hy
  clear hc
  generalize ρ.getD x 0 = rx at *
  generalize ρ.getD y 0 = ry at *
  have x1 : (x : Int) < (n : Int) := by omega
  have y1 : (y : Int) < (n : Int) := by omega
  go_enter Try.func85, Try.ntmps85
  go_wp2_with fail
  go_quiet ((go_at_call 86; exact Calls.quiet_of_same ((cmp_int rx ry _).mono fun _ _ h => ⟨h.1, h.2.symm⟩)))
  go_wp2_with fail
  go_ret
  exact ⟨rfl, _, rfl⟩

/-! ### The sort -/
abbrev Pl (n : Nat) := { k : Nat // k < n }
def encP {n : Nat} (k : Pl n) : Value := .int .i64 (k.val : Int)
def cfP {n : Nat} (ρ : List Int) (x y : Pl n) : Int := cmpI (ρ.getD x.val 0) (ρ.getD y.val 0)
theorem cfP_lt {n : Nat} (ρ : List Int) (x y : Pl n) : ltOf (cfP ρ) x y = decide (ρ.getD x.val 0 < ρ.getD y.val 0) := by
  unfold ltOf cfP cmpI
  generalize ρ.getD x.val 0 = a
  generalize ρ.getD y.val 0 = b
  by_cases h : a < b
  · rw [if_pos h, decide_eq_true h]; rfl
  · rw [if_neg h, decide_eq_false h]
    split <;> rfl
theorem cfP_swo {n : Nat} (ρ : List Int) : SWO (ltOf (cfP (n := n) ρ)) where
  irrefl x := by rw [cfP_lt]; simp
  trans x y z h1 h2 := by
    rw [cfP_lt] at *
    exact decide_eq_true (by have := of_decide_eq_true h1; have := of_decide_eq_true h2; omega)
  ntrans x y z h1 h2 := by
    rw [cfP_lt] at *
    exact decide_eq_false (by have := of_decide_eq_false h1; have := of_decide_eq_false h2; omega)
/-- The places in the order of their ranks. -/
def ordA (ρ : List Int) (n : Nat) (hn : 0 < n) (d : Array (Pl n)) : Array (Pl n) := letI : Inhabited (Pl n) := ⟨⟨0, hn⟩⟩; insertionSort (ltOf (cfP ρ)) d 0 n
def HoldsP {n : Nat} (hn : 0 < n) (w : World) (g : Nat) (d : Array (Pl n)) : Prop := letI : Inhabited (Pl n) := ⟨⟨0, hn⟩⟩; Holds encP w g 0 d
def putP {n : Nat} (hn : 0 < n) (w : World) (g : Nat) (d : Array (Pl n)) : World := letI : Inhabited (Pl n) := ⟨⟨0, hn⟩⟩; putRow encP w g 0 d
theorem putRow_map {α : Type} [Inhabited α] (enc : α → Value) (w : World) (b o : Nat) (d : Array α) : putRow enc w b o d = putRow id w b o (d.map enc) := by
  unfold putRow
  have e : putCells enc o d = putCells id o (d.map enc) := by
    funext c
    unfold putCells
    congr 1
    funext k x
    rw [Array.size_map]
    by_cases h : o ≤ k ∧ k < o + d.size
    · rw [if_pos h, if_pos h]
      have h1 : k - o < d.size := by omega
      rw [getElem!_pos d _ h1, getElem!_pos (d.map enc) _ (by rw [Array.size_map]; exact h1), Array.getElem_map]; rfl
    · rw [if_neg h, if_neg h]
  rw [e]

theorem ins_any {n : Nat} (hn : 0 < n) (hn20 : n < 20) (ρ : List Int) (b bR g cap : Nat) (d : Array (Pl n)) (hd : d.size = n) (w : World) (hR : w.cell? ⟨bR, 0, none⟩ = some (.slice (some ⟨b, 0, none⟩) n n)) (hc : ∀ i, i < n → w.cell? ⟨b, i, none⟩ = some (.int .i64 (ρ.getD i 0))) (hg1 : bR ≠ g) (hg2 : b ≠ g)
    (hH : HoldsP hn w g d) :
    Calls Try.prog 135 #[.slice (some ⟨g, 0, none⟩) n cap, .int .i64 0, .int .i64 (n : Int), .func (.func 85) #[] #[.pointer (some ⟨bR, 0, none⟩)]] w fun e w' => e = .returned (.tuple #[]) ∧ ∃ k, w' = (putP hn w g (ordA ρ n hn d)).drewN k := by
  letI : Inhabited (Pl n) := ⟨⟨0, hn⟩⟩
  have lR := World.block_lt_of_cell? w _ hR
  have lb := World.block_lt_of_cell? w _ (hc 0 hn)
  have hcmp : CmpReads Try.prog 85 #[.pointer (some ⟨bR, 0, none⟩)] (encP (n := n)) (cfP ρ) g 0 d.size w := by
    intro m os dk hdk x y
    have e1 : ∀ a : Addr, a.block < w.heap.size → a.block ≠ g → (sortWorld encP w g 0 m dk os).cell? a = w.cell? a := fun a ha hag => by
      unfold sortWorld
      rw [cell?_grow _ _ _ (by rw [size_putRow]; exact ha), cell?_putRow_other _ _ _ _ _ _ (.inl hag)]
      rfl
    exact ordc_any ρ b bR x.val y.val x.2 y.2 _ ((e1 ⟨bR, 0, none⟩ lR hg1).trans hR) (fun i hi => (e1 ⟨b, i, none⟩ lb hg2).trans (hc i hi))
  have := Any.insertionSortCmpFunc_one Try.insInts encP (fun _ => rfl) (cfP ρ) 85 #[.pointer (some ⟨bR, 0, none⟩)] g 0 cap 0 n d w (enters_of Try.func85 (by kernel_rfl) rfl) hcmp hH (Nat.zero_le _) (by omega) (by omega)
  rw [hd] at this
  exact this

set_option maxHeartbeats 1000000 in
theorem stable_any {n : Nat} (hn : 0 < n) (hn20 : n < 20) (ρ : List Int) (b bR g cap : Nat) (d : Array (Pl n)) (hd : d.size = n) (w : World) (hR : w.cell? ⟨bR, 0, none⟩ = some (.slice (some ⟨b, 0, none⟩) n n)) (hc : ∀ i, i < n → w.cell? ⟨b, i, none⟩ = some (.int .i64 (ρ.getD i 0))) (hg1 : bR ≠ g) (hg2 : b ≠ g)
    (hH : HoldsP hn w g d) :
    Calls Try.prog 115 #[.slice (some ⟨g, 0, none⟩) n cap, .int .i64 (n : Int), .func (.func 85) #[] #[.pointer (some ⟨bR, 0, none⟩)]] w fun e w' => e = .returned (.tuple #[]) ∧ ∃ k, w' = (putP hn w g (ordA ρ n hn d)).drewN k := by
  have HI := ins_any hn hn20 ρ b bR g cap d hd w hR hc hg1 hg2 hH
  have x1 : (n : Int) < 20 := by omega
  clear hR hc hH
  generalize putP hn w g (ordA ρ n hn d) = W at *
  have HI := Lib.hid HI
  go_enter Try.func115, Try.ntmps115
  go_wp2_with fail
  go_loopw [7, 8] (fun a b wr => a = .int .i64 0 ∧ b = .int .i64 20 ∧ wr = w) (fun _ _ _ => 0)
  case atStart => exact ⟨rfl, rfl, rfl⟩
  case round =>
    obtain ⟨rfl, rfl, rfl⟩ := hrel
    go_wp2_with fail
    with_reducible refine (HI.out).mono ?_
    rintro e w' ⟨rfl, k, rfl⟩
    go_wp2_with fail
    go_loopw [6] (fun a wr => a = .int .i64 20 ∧ wr = W.drewN k) (fun _ _ => 0)
    case atStart => exact ⟨rfl, rfl⟩
    case round =>
      obtain ⟨rfl, rfl⟩ := hrel
      go_wp2_with fail
      go_end0
      exact ⟨rfl, k, rfl⟩

theorem sort_any {n : Nat} (hn : 0 < n) (hn20 : n < 20) (ρ : List Int) (b bR g cap : Nat) (d : Array (Pl n)) (hd : d.size = n) (w : World) (hR : w.cell? ⟨bR, 0, none⟩ = some (.slice (some ⟨b, 0, none⟩) n n)) (hc : ∀ i, i < n → w.cell? ⟨b, i, none⟩ = some (.int .i64 (ρ.getD i 0))) (hg1 : bR ≠ g) (hg2 : b ≠ g)
    (hH : HoldsP hn w g d) :
    Calls Try.prog 84 #[.slice (some ⟨g, 0, none⟩) n cap, .func (.func 85) #[] #[.pointer (some ⟨bR, 0, none⟩)]] w fun e w' => e = .returned (.tuple #[]) ∧ ∃ k, w' = (putP hn w g (ordA ρ n hn d)).drewN k := by
  have HI := stable_any hn hn20 ρ b bR g cap d hd w hR hc hg1 hg2 hH
  clear hR hc hH
  generalize putP hn w g (ordA ρ n hn d) = W at *
  have HI := Lib.hid HI
  go_enter Try.func84, Try.ntmps84
  go_wp2_with fail
  with_reducible refine (HI.out).mono ?_
  rintro e w' ⟨rfl, k, rfl⟩
  go_wp2_with fail
  go_end0
  exact ⟨rfl, k, rfl⟩

theorem ordA_perm (ρ : List Int) (n : Nat) (hn : 0 < n) (d : Array (Pl n)) (hd : d.size = n) : (ordA ρ n hn d).toList.Perm d.toList ∧ (ordA ρ n hn d).size = n ∧ ∀ (i j : Nat) (x y : Pl n), i < j → (ordA ρ n hn d)[i]? = some x → (ordA ρ n hn d)[j]? = some y → ρ.getD x.val 0 ≤ ρ.getD y.val 0 := by
  letI : Inhabited (Pl n) := ⟨⟨0, hn⟩⟩
  obtain ⟨⟨h1, -, h2⟩, h3⟩ := insertionSort_holds (lt := ltOf (cfP (n := n) ρ)) (cfP_swo ρ) d 0 n (Nat.zero_le _) (by omega)
  have e1 : (ordA ρ n hn d) = insertionSort (ltOf (cfP ρ)) d 0 n := rfl
  have h1' : (ordA ρ n hn d).size = n := by rw [e1, h1, hd]
  have x1 : (ordA ρ n hn d).extract 0 n = ordA ρ n hn d := by have := Array.extract_size (xs := ordA ρ n hn d); rwa [h1'] at this
  have x2 : d.extract 0 n = d := by have := Array.extract_size (xs := d); rwa [hd] at this
  rw [← e1, x1, x2] at h2
  rw [← e1] at h3
  refine ⟨h2, h1', fun i j x y hij hx hy => ?_⟩
  obtain ⟨hi, rfl⟩ := Array.getElem?_eq_some_iff.1 hx
  obtain ⟨hj, rfl⟩ := Array.getElem?_eq_some_iff.1 hy
  have h4 := h3 i j (Nat.zero_le _) hij (by omega)
  rw [getElem!_pos _ i hi, getElem!_pos _ j hj, cfP_lt] at h4
  have := of_decide_eq_false h4
  omega
/-- The places in the order of their ranks, as numbers. -/
def ordL (ρ : List Int) (n : Nat) : List Nat := if hn : 0 < n then ((ordA ρ n hn (Array.ofFn (n := n) fun i => ⟨i.val, i.isLt⟩)).toList.map Subtype.val) else []
theorem ordL_spec (ρ : List Int) (n : Nat) (hn : 0 < n) : (ordL ρ n).Perm (List.range n) ∧ ∀ (i j x y : Nat), i < j → (ordL ρ n)[i]? = some x → (ordL ρ n)[j]? = some y → ρ.getD x 0 ≤ ρ.getD y 0 := by
  obtain ⟨h1, h2, h3⟩ := ordA_perm ρ n hn (Array.ofFn (n := n) fun i => ⟨i.val, i.isLt⟩) (by simp)
  have e : ordL ρ n = ((ordA ρ n hn (Array.ofFn (n := n) fun i => ⟨i.val, i.isLt⟩)).toList.map Subtype.val) := by unfold ordL; rw [dif_pos hn]
  rw [e]
  generalize ordA ρ n hn (Array.ofFn (n := n) fun i => ⟨i.val, i.isLt⟩) = D at *
  constructor
  · refine (h1.map Subtype.val).trans (List.Perm.of_eq ?_)
    refine List.ext_getElem? fun i => ?_
    rw [List.getElem?_map, Array.getElem?_toList]
    by_cases hi : i < n
    · rw [List.getElem?_range hi]
      simp [hi]
    · rw [List.getElem?_eq_none (by simp; omega), Array.getElem?_eq_none (by simp; omega)]; rfl
  · intro i j x y hij hx hy
    rw [List.getElem?_map, Option.map_eq_some_iff] at hx hy
    obtain ⟨a, ha, rfl⟩ := hx
    obtain ⟨c, hc, rfl⟩ := hy
    rw [Array.getElem?_toList] at ha hc
    exact h3 i j a c hij ha hc

/-- A call that writes a row of the caller's own, at one world. -/
abbrev CSetW (P : Program) (f : FuncId) (args : Array Value) (w : World) (base g m cap : Nat) (e : TypeId) (kk : Nat) (l' : List (List Value)) : Prop :=
  Calls P f args w fun en w' => en = .returned (.tuple #[]) ∧ w.grownBy w' (some g) ∧ w'.heap.size = w.heap.size ∧ Ent.ok base w' (.row (.slice (some ⟨g, 0, none⟩) m cap) e kk l')
section
variable {P : Program} {C : Fx} {E : List (Nat × Value)} {B : List Ent} {F : List Fac} {h : Vw} {a : Act} {w : World} {Q : Exit → Act → World → Prop} {c0 : Code} {p : List Nat} {n : Nat} {ks : List Kt}
theorem x_callsetw {f : FuncId} {args : Array Value} {e : TypeId} {g m cap kk : Nat} {l l' : List (List Value)} (hK : K C E B F h a w) (d i : Nat) (hB : B[i]? = some (.row (.slice (some ⟨g, 0, none⟩) m cap) e kk l)) (hc : Ent.ok C.w0.heap.size w (.row (.slice (some ⟨g, 0, none⟩) m cap) e kk l) → CSetW P f args w C.w0.heap.size g m cap e kk l')
    (hk : ∀ w, callAt P C E (opsAt c0 p) ((opsAt c0 p).toList.drop n) d w = [.b true, .r (.ok (.enter f args) w)])
    (k : ∀ a w, K C ((d, .tuple #[]) :: E) (B.set i (.row (.slice (some ⟨g, 0, none⟩) m cap) e kk l')) F h a w → Goal P c0 Q (.ops p (n + 1)) ks a w) : Goal P c0 Q (.ops p n) ks a w := by
  obtain ⟨o, r, hl, hg, hd, hlt, hkn, hrun⟩ := callAt_parts hk
  have hr := drop_cons hl
  refine goal_unguard hl (gKnown_wanted hK.j.fits hg) (wpList_plain rfl fun KK hKK => ?_)
  unfold Oper.wp
  have hrun' : ∀ w, (execOp (evD E) { o with guard := none }).run P w = .ok (.enter f args) w := fun w => by
    have := hrun w
    unfold execOp at this ⊢
    exact this
  rw [run_ev (o := { o with guard := none }) hK.j.fits hkn, hrun']
  refine (hc (hK.j.ents _ (List.mem_of_getElem? hB))).mono ?_
  rintro e' w' ⟨rfl, h1, h2, h3⟩
  refine hKK _ _ ?_
  rw [hr]
  exact k _ _ ⟨(hK.j.setRow hB h1 h2 h3).putd _ hd hlt, hK.f⟩
end

theorem natRows_flat (l : List Nat) : (natRows l).flatten = l.map fun (k : Nat) => Value.int .i64 (k : Int) := by
  induction l with
  | nil => rfl
  | cons a l ih => show [Value.int .i64 (a : Int)] ++ (natRows l).flatten = _; rw [ih]; rfl
theorem sort_set {n : Nat} (hn : 0 < n) (hn20 : n < 20) (ρ : List Int) (hρ : ρ.length = n) (b bR g cap base : Nat) (w : World) (bd : List Nat) (hR : Cells ⟨w, []⟩ bR 0 [.slice (some ⟨b, 0, none⟩) n n]) (hr : RS ⟨w, bd⟩ 1 (.slice (some ⟨b, 0, none⟩) n n) (rkRows ρ)) (hgd : g ∈ bd) (hg1 : bR ≠ g)
    (hok : Ent.ok base w (.row (.slice (some ⟨g, 0, none⟩) n cap) 3 1 (natRows (List.range n)))) :
    CSetW Try.prog 84 #[.slice (some ⟨g, 0, none⟩) n cap, .func (.func 85) #[] #[.pointer (some ⟨bR, 0, none⟩)]] w base g n cap 3 1 (natRows (ordL ρ n)) := by
  obtain ⟨k1, k2⟩ := hok
  have hlen : (natRows (List.range n)).length = n := by simp
  have k1n := k1
  rw [hlen] at k1n
  have hbx := row_box k1n
  have hgb : b ≠ g := by
    rcases hr with ⟨A, c, e, -, -, -⟩ | ⟨b', off, c, e, -, -, -, hnb, -⟩
    · simp only [Value.slice.injEq] at e; omega
    · simp only [Value.slice.injEq, Option.some.injEq, Addr.mk.injEq] at e
      obtain ⟨⟨rfl, -, -⟩, -, -⟩ := e
      intro q; rw [q] at hnb; exact hnb hgd
  have hc : ∀ i, i < n → w.cell? ⟨b, i, none⟩ = some (.int .i64 (ρ.getD i 0)) := fun i hi => by
    have hri := rk_get (l := ρ) (i := i) (by omega)
    obtain ⟨b', off, e, -, hcs⟩ := hr.row hri
    simp only [Option.some.injEq, Addr.mk.injEq] at e
    obtain ⟨rfl, rfl, -⟩ := e
    have := hcs.lies 0 _ rfl
    simpa using this
  have hRc : w.cell? ⟨bR, 0, none⟩ = some (.slice (some ⟨b, 0, none⟩) n n) := by simpa using hR.lies 0 _ rfl
  have hD : (Array.ofFn (n := n) fun i => (⟨i.val, i.isLt⟩ : Pl n)).size = n := by simp
  have hH : HoldsP hn w g (Array.ofFn (n := n) fun i => ⟨i.val, i.isLt⟩) := by
    letI : Inhabited (Pl n) := ⟨⟨0, hn⟩⟩
    intro j hj
    rw [hD] at hj
    refine ⟨?_, hbx.free _⟩
    have := hbx.cells j (.int .i64 (j : Int)) (by rw [natRows_flat, List.getElem?_map, List.getElem?_range hj]; rfl)
    rw [Nat.zero_add, this, getElem!_pos _ j (by rw [hD]; exact hj)]
    simp [encP]
  refine Calls.mono (sort_any hn hn20 ρ b bR g cap _ hD w hRc hc hg1 hgb hH) ?_
  rintro e w' ⟨rfl, k, rfl⟩
  have hO : (ordA ρ n hn (Array.ofFn (n := n) fun i => ⟨i.val, i.isLt⟩)).size = n := (ordA_perm ρ n hn _ hD).2.1
  have hvs : ((ordA ρ n hn (Array.ofFn (n := n) fun i => ⟨i.val, i.isLt⟩)).map encP) = ((natRows (ordL ρ n)).flatten).toArray := by
    rw [natRows_flat]
    unfold ordL
    rw [dif_pos hn, List.map_map]
    apply Array.ext'
    simp [encP, Function.comp_def]
  have hll : (natRows (ordL ρ n)).flatten.length = n := by
    have := congrArg Array.size hvs
    rw [Array.size_map, hO, List.size_toArray] at this
    exact this.symm
  have hl0 : (natRows (List.range n)).flatten.length = n := by rw [natRows_flat]; simp
  have hw : (putP hn w g (ordA ρ n hn (Array.ofFn (n := n) fun i => ⟨i.val, i.isLt⟩))).drewN k = (Go.Sort.ahead w k).setCells g 0 (natRows (ordL ρ n)).flatten := by
    letI : Inhabited (Pl n) := ⟨⟨0, hn⟩⟩
    have h2 : Holds id (Go.Sort.ahead w k) g 0 (natRows (List.range n)).flatten.toArray := fun j hj => by
      have hj : j < (natRows (List.range n)).flatten.length := by simpa using hj
      refine ⟨?_, hbx.free _⟩
      rw [Nat.zero_add]
      show w.cell? ⟨g, j, none⟩ = _
      rw [hbx.cells j _ (List.getElem?_eq_getElem hj), getElem!_pos _ _ (by simpa using hj)]; simp
    have := setCells_putRow (Go.Sort.ahead w k) g 0 (natRows (ordL ρ n)).flatten 0 (natRows (List.range n)).flatten.toArray (by rw [List.size_toArray, hll, hl0]; omega)
    rw [putRow_self id _ g 0 _ h2, setMany_all _ _ (by rw [List.size_toArray, hll, hl0])] at this
    rw [Nat.add_zero] at this
    rw [this]
    show (putRow encP w g 0 _).drewN k = _
    rw [putRow_map, hvs]
    rfl
  rw [hw]
  have k1' : (Go.Sort.ahead w k).ownsRow base 3 1 (.slice (some ⟨g, 0, none⟩) n cap) n (natRows (List.range n)).flatten := k1n
  obtain ⟨q1, q2⟩ := row_setCells (natRows (ordL ρ n)).flatten 0 (natRows (List.range n)).flatten (Go.Sort.ahead w k) k1' (by omega)
  have e : putMany (natRows (List.range n)).flatten 0 (natRows (ordL ρ n)).flatten = (natRows (ordL ρ n)).flatten := by
    unfold putMany
    rw [Nat.zero_add, hll, List.drop_eq_nil_of_le (by omega)]; simp
  rw [e] at q1
  have hol : (natRows (ordL ρ n)).length = (natRows (List.range n)).length := by
    rw [natRows_flat, List.length_map] at hll
    rw [List.length_map, hll, hlen]
  refine ⟨rfl, ⟨q2.os, q2.tape, q2.output, q2.size, q2.block⟩, size_setCells _ _ _ _, ?_, fun r hr => by obtain ⟨x, -, rfl⟩ := List.mem_map.1 hr; rfl⟩
  rw [hol, hlen]; exact q1

end Go.Proofs.Ytgjndkphfabnnaa

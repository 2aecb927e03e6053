/-
  Rows of the call's own that are lent to a call; a call that writes into one; the text of a slice of bytes; loads out of what a call in a drawn region gave.
-/
import Derived.Test.YtgjndkphfabnnaaRow
namespace Go.Proofs.Ytgjndkphfabnnaa
open Go.RowKit
set_option linter.unusedVariables false
set_option linter.unusedSimpArgs false

section
variable {P : Program} {C : Fx} {c0 : Code} {Q : Exit → Act → World → Prop} {h : Vw} {a : Act} {w : World} {E : List (Nat × Value)} {B : List Ent} {F : List Fac} {p : List Nat} {n : Nat} {ks : List Kt}

theorem row_apart (hnd : (blk B).Nodup) {v : Value} {e : TypeId} {k b : Nat} {l : List (List Value)} {cs : List Value} (hr : Ent.row v e k l ∈ B) (hb : Ent.box b cs ∈ B) : ∀ x, v.ownBlock = some x → x ≠ b := by
  obtain ⟨i, hi⟩ := List.mem_iff_getElem?.1 hr
  obtain ⟨j, hj⟩ := List.mem_iff_getElem?.1 hb
  have hne : i ≠ j := by rintro rfl; rw [hi] at hj; simp at hj
  intro x hx e
  exact ent_apart hnd hi hj hne x (by simp [Ent.blocks, hx]) (by simp [Ent.blocks, e])
/-- A row of the call's own, as a call sees it that may write block b. -/
theorem J.rowLent (hJ : J C E B h a w) (i j : Nat) {v : Value} {e : TypeId} {k b : Nat} {l : List (List Value)} {cs : List Value} (hr : B[i]? = some (.row v e k l)) (hb : B[j]? = some (.box b cs)) : RS ⟨w, [b]⟩ k v l :=
  row_rs (hJ.ents _ (List.mem_of_getElem? hr)) fun x hx hm => row_apart hJ.nodup (List.mem_of_getElem? hr) (List.mem_of_getElem? hb) x hx (List.mem_singleton.1 hm)
theorem J.boxBad (hJ : J C E B h a w) (j : Nat) {b : Nat} {cs : List Value} (hb : B[j]? = some (.box b cs)) : ∀ x ∈ [b], x ∈ blk B ++ C.bad0 := fun x hx => by
  rw [List.mem_singleton.1 hx]
  exact List.mem_append_left _ (List.mem_flatMap.2 ⟨_, List.mem_of_getElem? hb, by simp [Ent.blocks]⟩)

/-- A call that writes a row of the caller's own. -/
abbrev CSet (P : Program) (f : FuncId) (args : Array Value) (base g m cap : Nat) (e : TypeId) (kk : Nat) (l l' : List (List Value)) : Prop :=
  ∀ w, Ent.ok base w (.row (.slice (some ⟨g, 0, none⟩) m cap) e kk l) → Calls P f args w fun en w' => en = .returned (.tuple #[]) ∧ w.grownBy w' (some g) ∧ w'.heap.size = w.heap.size ∧ Ent.ok base w' (.row (.slice (some ⟨g, 0, none⟩) m cap) e kk l')
theorem x_callset {f : FuncId} {args : Array Value} {e : TypeId} {g m cap kk : Nat} {l l' : List (List Value)} (hK : K C E B F h a w) (d i : Nat) (hB : B[i]? = some (.row (.slice (some ⟨g, 0, none⟩) m cap) e kk l)) (hc : CSet P f args C.w0.heap.size g m cap e kk l l')
    (hk : ∀ w, callAt P C E (opsAt c0 p) ((opsAt c0 p).toList.drop n) d w = [.b true, .r (.ok (.enter f args) w)])
    (k : ∀ a w, K C ((d, .tuple #[]) :: E) (B.set i (.row (.slice (some ⟨g, 0, none⟩) m cap) e kk l')) F h a w → Goal P c0 Q (.ops p (n + 1)) ks a w) : Goal P c0 Q (.ops p n) ks a w := by
  obtain ⟨o, r, hl, hg, hd, hlt, hkn, hrun⟩ := callAt_parts hk
  have hr := drop_cons hl
  refine goal_unguard hl (gKnown_wanted hK.j.fits hg) (wpList_plain rfl fun KK hKK => ?_)
  unfold Oper.wp
  have hrun' : ∀ w, (execOp (evD E) { o with guard := none }).run P w = .ok (.enter f args) w := fun w => by
    have := hrun w
    unfold execOp at this ⊢
    exact this
  rw [run_ev (o := { o with guard := none }) hK.j.fits hkn, hrun']
  refine (hc w (hK.j.ents _ (List.mem_of_getElem? hB))).mono ?_
  rintro e' w' ⟨rfl, h1, h2, h3⟩
  refine hKK _ _ ?_
  rw [hr]
  exact k _ _ ⟨(hK.j.setRow hB h1 h2 h3).putd _ hd hlt, hK.f⟩

/-- A row of the call's own, as a call sees it that writes nothing. -/
theorem J.rowQ (hJ : J C E B h a w) (i : Nat) {v : Value} {e : TypeId} {k : Nat} {l : List (List Value)} (hr : B[i]? = some (.row v e k l)) : RS ⟨w, []⟩ k v l := row_rs (hJ.ents _ (List.mem_of_getElem? hr)) fun x hx hm => by cases hm
theorem J.seesQ (hJ : J C E B h a w) : Sees h ⟨w, []⟩ := hJ.sees.less fun x hx => by cases hx
theorem x_callq {f : FuncId} {args : Array Value} {v : Value} (hK : K C E B F h a w) (d : Nat) (hc : C0 P f args ⟨w, []⟩ (fun r _ => r = v)) (hk : ∀ w, callAt P C E (opsAt c0 p) ((opsAt c0 p).toList.drop n) d w = [.b true, .r (.ok (.enter f args) w)])
    (k : ∀ h' a w, Sees h h' → K C ((d, v) :: E) B F h' a w → Goal P c0 Q (.ops p (n + 1)) ks a w) : Goal P c0 Q (.ops p n) ks a w := by
  obtain ⟨o, r, hl, hg, hd, hlt, hkn, hrun⟩ := callAt_parts hk
  have hr := drop_cons hl
  refine goal_unguard hl (gKnown_wanted hK.j.fits hg) (wpList_plain rfl fun KK hKK => ?_)
  unfold Oper.wp
  have hrun' : ∀ w, (execOp (evD E) { o with guard := none }).run P w = .ok (.enter f args) w := fun w => by
    have := hrun w
    unfold execOp at this ⊢
    exact this
  rw [run_ev (o := { o with guard := none }) hK.j.fits hkn, hrun']
  refine (hc (by intro x hx; cases hx) (by simp) (by simp) (by intro b hb; cases hb)).mono ?_
  rintro e' w' ⟨r', Bo, rfl, hlo, -, -, rfl⟩
  obtain ⟨j, s⟩ := hK.j.called hlo
  refine hKK _ _ ?_
  rw [hr]
  exact k _ _ _ s ⟨j.putd _ hd hlt, fun x hx => (hK.f x hx).sees s⟩

/-- A block of the call's own, as a call sees it that writes nothing. -/
theorem J.boxQ (hJ : J C E B h a w) (i : Nat) {b : Nat} {cs : List Value} (hb : B[i]? = some (.box b cs)) : Cells ⟨w, []⟩ b 0 cs := by
  have hx : Box w b cs := hJ.ents _ (List.mem_of_getElem? hb)
  exact ⟨hx.lt, by simp, box_range hx⟩
theorem elem_size {e : TypeId} {kk : Nat} (he : (P.info? e).map (·.size) = some kk) : (sizeOf e).run P w = .ok kk w := by
  cases hq : P.info? e with
  | none => simp [hq] at he
  | some inf =>
    simp [hq] at he
    simp [sizeOf, typeInfo, hq, he]
/-- s[:k] -/
theorem run_hi {o : Oper} {ρ : Operand → Value} {t e : TypeId} {x y : Operand} {A : Option Addr} {n cap k kk : Nat} (ho : o.op = .slice t x none (some y) none) (hx : ρ x = .slice A n cap) (hy : ρ y = .int .i64 ((k : Nat) : Int)) (hk : k ≤ cap) (ht : P.underlying t = some (.slice e)) (he : (P.info? e).map (·.size) = some kk) :
    (execOp ρ o).run P w = .ok (.value (.slice A k cap)) w := by
  have hsz := elem_size (w := w) he
  have ha : ∀ m, (if cap = 0 then A else A.map (·.add (0 * m))) = A := fun m => by cases A <;> simp [Addr.add]
  have hel : P.elem t = e := by simp [Program.elem, ht]
  have ht' : P.underlying t = some (.slice (P.elem t)) := by rw [hel]; exact ht
  have h1 : ((k : Nat) : Int) ≤ (cap : Int) := by omega
  unfold execOp
  simp only [ho, hx, hy, Option.map_some, Option.map_none]
  rw [show (Instr.sliceAt t (.slice A n cap) none (some (.int .i64 ((k : Nat) : Int))) none) = Instr.sliceAt t (.slice A n cap) none (some (.int .i64 ((k : Nat) : Int))) none from rfl]
  simp [Sem.run_bind, run_sliceAt_slice w t _ _ _ _ ht', run_slice_h w t A n cap ht' .i64 ((k : Nat) : Int) (by omega) h1, hel, hsz, sliced]
  cases A <;> simp [Addr.add]
/-- s[k:] -/
theorem run_lo {o : Oper} {ρ : Operand → Value} {t e : TypeId} {x y : Operand} {A A' : Option Addr} {n cap k kk : Nat} (ho : o.op = .slice t x (some y) none none) (hx : ρ x = .slice A n cap) (hy : ρ y = .int .i64 ((k : Nat) : Int)) (hk : k ≤ n) (ht : P.underlying t = some (.slice e)) (he : (P.info? e).map (·.size) = some kk)
    (hA : A' = if cap = k then A else A.map (·.add (k * kk))) : (execOp ρ o).run P w = .ok (.value (.slice A' (n - k) (cap - k))) w := by
  have hsz := elem_size (w := w) he
  have hel : P.elem t = e := by simp [Program.elem, ht]
  have ht' : P.underlying t = some (.slice (P.elem t)) := by rw [hel]; exact ht
  have h1 : ((k : Nat) : Int) ≤ (n : Int) := by omega
  unfold execOp
  simp only [ho, hx, hy, Option.map_some, Option.map_none]
  simp [Sem.run_bind, run_sliceAt_slice w t _ _ _ _ ht', run_slice_l w t A n cap ht' .i64 ((k : Nat) : Int) (by omega) h1, hel, hsz, sliced, hA]

/-- An append to a row of the call's own, by its bytes. -/
theorem x_append {g0 : Vw} (hK : K C E B F h a w) (d i : Nat) {v : Value} {t te : TypeId} {kk : Nat} {l ns : List (List Value)} {b m c : Nat} {y z : Operand} (hk : goodOp C E (opsAt c0 p) n d = true) (hop : (opAt (opsAt c0 p) n).op = .call { callee := .builtin .append, args := #[y, z], argTypes := #[t, t] }) (hty : (opAt (opsAt c0 p) n).type = t)
    (hB : B[i]? = some (.row v te kk l)) (hy : evE E y = some v) (hz : evE E z = some (.slice (some ⟨b, 0, none⟩) m c)) (hc : Cells g0 b 0 ns.flatten) (hs : Sees g0 h)
    (ht : P.underlying t = some (.slice te)) {zv : Value} {bytes : Nat} (hinfo : (P.info? te).map (fun i => (i.zero, i.size, i.bytes)) = some (some zv, kk, bytes)) (hzs : zv.cells.size = kk) (hck : chkRows kk ns m = true)
    (hlen : (l.length + m) * bytes ≤ 140737488355328 ∧ l.length + m ≤ 9223372036854775807) (k : ∀ u h' a w, Sees h h' → K C ((d, .slice (sA u) (sN u) (sC u)) :: E) (B.set i (.row (.slice (sA u) (sN u) (sC u)) te kk (l ++ ns))) F h' a w → Goal P c0 Q (.ops p (n + 1)) ks a w) : Goal P c0 Q (.ops p n) ks a w := by
  obtain ⟨o, rest, hl, ho, hg, hd, hlt, hkn⟩ := goodOp_parts hk
  have hrr := drop_cons hl
  rw [ho] at hop hty
  refine goal_unguard hl (gKnown_wanted hK.j.fits hg) ?_
  refine s_append (o := { o with guard := none }) hK.j d i (okk (s := ⟨.out .ret, [], E, B, F, [], []⟩) hd hlt hkn) hop hty hB hy hz hc hs ht hinfo hzs hck hlen ?_
  intro u h' a' w' s j
  rw [hrr]
  exact k u h' a' w' s ⟨j, fun x hx => (hK.f x hx).sees s⟩
/-- What is reckoned out of memory that is known. -/
theorem x_purew (hK : K C E B F h a w) (d : Nat) (v : Value) (hk : goodOp C E (opsAt c0 p) n d = true) (hr : (execOp (evD E) (opAt (opsAt c0 p) n)).run P w = .ok (.value v) w) (k : ∀ a w, K C ((d, v) :: E) B F h a w → Goal P c0 Q (.ops p (n + 1)) ks a w) : Goal P c0 Q (.ops p n) ks a w := by
  obtain ⟨o, rest, hl, ho, hg, hd, hlt, hkn⟩ := goodOp_parts hk
  have hrr := drop_cons hl
  refine goal_unguard hl (gKnown_wanted hK.j.fits hg) (wpList_plain rfl fun KK hKK => ?_)
  unfold Oper.wp
  rw [ho] at hr
  have hr' : (execOp (evD E) { o with guard := none }).run P w = .ok (.value v) w := by
    unfold execOp at hr ⊢
    exact hr
  rw [run_ev (o := { o with guard := none }) hK.j.fits hkn, hr']
  refine hKK _ _ ?_
  rw [hrr]
  exact k _ _ ⟨hK.j.putd _ hd hlt, hK.f⟩
theorem run_text {o : Oper} {ρ : Operand → Value} {src dst e : TypeId} {x : Operand} {b m cap : Nat} {l : List UInt8} (ho : o.op = .convert src dst x) (hx : ρ x = .slice (some ⟨b, 0, none⟩) m cap) (hm : m = l.length) (hs : P.underlying src = some (.slice e)) (he : P.underlying e = some (.int .u8)) (hd : P.underlying dst = some .string)
    (hc : Cells h b 0 (l.map fun c => .int .u8 (c.toNat : Int))) (s : Sees h ⟨w, blk B ++ C.bad0⟩) : (execOp ρ o).run P w = .ok (.value (.string ⟨l.toArray⟩)) w := by
  have hc' := (hc.sees s).lies
  subst hm
  unfold execOp
  simp only [ho, hx, Sem.run_bind]
  rw [run_convert_bytes_back w src dst e ⟨b, 0, none⟩ cap l hs he hd (fun j hj => by
    have := hc' j (.int .u8 (l[j].toNat : Int)) (by rw [List.getElem?_map, List.getElem?_eq_getElem hj]; rfl)
    rw [show ((⟨b, 0, none⟩ : Addr).add j) = ⟨b, 0 + j, none⟩ from by unfold Addr.add; split <;> simp_all]; exact this)]
  simp [Sem.run_pure]
end

section
variable {P : Program} {Q : Exit → Act → World → Prop} {R : Reg} {ops : Array Oper} {i : Nat}
/-- In a drawn region: a load out of what an operation ahead told of. -/
theorem r_loadfx (hT : chkT R = true) (hA : chkA R ops = true) (d : Nat) (f : Gh → Value) (dp : List Nat) (p : Nat) (hp : R.T[p]? = some (i, d, f)) (ho : only R i none = true) (hF : (R.F.all fun t => t.1 != i) = true) (hk : ∀ x, okR R ops i d dp x = true)
    (j : Nat) (q : Nat × (Gh → Vw → Prop)) (hq : R.F[j]? = some q) (hqa : (R.an i).contains q.1 = true) (b o0 : Gh → Nat) (cs : Gh → List Value) (fo : Nat) (hc : ∀ x H, q.2 x H → Cells H (b x) (o0 x) (cs x))
    (t : TypeId) (y : Operand) (hop : (opAt ops i).op = .load t y) (hy : ∀ x, evE (rdE R i dp x) y = some (.pointer (some ⟨b x, o0 x + fo, none⟩))) (hv : ∀ x, loadsAs P t (cs x) fo = some (f x)) : StepAt' P ops Q R i := by
  intro o D x h a w hio hn hd I
  obtain ⟨h1, h2, h3, h4⟩ := okR_parts hio (hk x)
  have hcell := (hc x h (I.facts q (List.mem_of_getElem? hq) (an_done hA hio I hd _ (by simpa using hqa)))).sees I.mem.sees
  have hld := run_loads (P := P) (off := fo) hcell.lies (hv x)
  refine wpOp_value hio (gOk_wanted hio (rd_fits hio h1 I hd hn) h2) (v := f x) (w' := w) ?_ ⟨x, h, ?_⟩
  · rw [op_at hio] at hop
    unfold execOp
    simp only [hop, (rd_fits hio h1 I hd hn).ev (hy x), Sem.run_bind, Sem.run_pure, Result.andThen_ok, hld]
  · rw [h3]
    refine I.next hio hT hA hn hd ?_ (Sees.refl _) (fun _ _ _ => rfl) (.inl ⟨d, f, List.mem_of_getElem? hp, rfl⟩) (fun q hq hD => I.facts q hq (hD.resolve_left fun e => ?_))
    · rw [only_none ho]; exact I.mem.putN _ _
    · have := List.all_eq_true.1 hF q hq
      simp [e] at this

/-- A call that writes nothing and gives what is known; it reads a row of the caller's own. -/
theorem r_callq (hT : chkT R = true) (hA : chkA R ops = true) (hmono : ∀ q ∈ R.F, ∀ x h h', Sees h h' → q.2 x h → q.2 x h') (d : Nat) (f : Gh → Value) (dp : List Nat) (p : Nat) (hp : R.T[p]? = some (i, d, f)) (ho : only R i none = true) (hF : (R.F.all fun t => t.1 != i) = true) (hk : ∀ x, okR R ops i d dp x = true)
    (e2 : Nat) (g2 : Gent) (hg2 : R.G[e2]? = some g2) (hs2 : sync R i g2 = true) (v2 : Gh → Value) (t2 : TypeId) (kk : Nat) (l2 : List (List Value)) (hc2 : ∀ x, curA (R.an i) x g2 = some (.row (v2 x) t2 kk l2))
    (k : FuncId) (args : Gh → Array Value) (hr : ∀ x w, (execOp (evD (rdE R i dp x)) (opAt ops i)).run P w = .ok (.enter k (args x)) w)
    (hc : ∀ x H, H.bad = [] → Sees R.h H → (∀ (j : Nat) (q : Nat × (Gh → Vw → Prop)), R.F[j]? = some q → (R.an i).contains q.1 = true → q.2 x H) → RS H kk (v2 x) l2 → C0 P k (args x) H (fun v _ => v = f x)) : StepAt' P ops Q R i := by
  intro o D x h a w hio hn hd I
  obtain ⟨h1, h2, h3, h4⟩ := okR_parts hio (hk x)
  have han := an_done hA hio I hd
  have hcur2 := (cur_sync (x' := x) I hn han hs2).trans (hc2 x)
  have hm2 : Ent.row (v2 x) t2 kk l2 ∈ BD R.G D x := by rw [BD_split hg2, hcur2]; simp
  obtain ⟨j2, hj2⟩ := List.mem_iff_getElem?.1 hm2
  have sQ : Sees h ⟨w, []⟩ := I.mem.seesQ
  have hcc := hc x ⟨w, []⟩ rfl (I.sees.trans sQ) (fun j q hq hc => hmono q (List.mem_of_getElem? hq) x _ _ sQ (I.facts q (List.mem_of_getElem? hq) (han _ (by simpa using hc)))) (I.mem.rowQ j2 hj2)
  refine wpOp_call hio (gOk_wanted hio (rd_fits hio h1 I hd hn) h2) (by rw [run_ev (rd_fits hio h1 I hd hn) h4, ← op_at hio]; exact hr x w) ((hcc (by intro y hy; cases hy) (by simp) (by simp) (by intro b hb; cases hb)).mono ?_)
  rintro e' w' ⟨v, Bo, rfl, hl, -, -, rfl⟩
  obtain ⟨j, s⟩ := I.mem.called hl
  refine ⟨f x, rfl, x, ⟨w', blk (BD R.G D x) ++ R.C.bad0⟩, ?_⟩
  rw [h3]
  refine I.next hio hT hA hn hd ?_ s (fun _ _ _ => rfl) (.inl ⟨d, f, List.mem_of_getElem? hp, rfl⟩) (fun q hq hD => hmono q hq x _ _ s (I.facts q hq (hD.resolve_left fun e => ?_)))
  · rw [only_none ho]; exact j.putN _ _
  · have := List.all_eq_true.1 hF q hq
    simp [e] at this

/-- A call that writes one block of the caller's, and reads a row of the caller's own. -/
theorem r_call1r (hT : chkT R = true) (hA : chkA R ops = true) (hmono : ∀ q ∈ R.F, ∀ x h h', Sees h h' → q.2 x h → q.2 x h') (hi : Ind R i) (d : Nat) (F : Value → Value) (dp : List Nat) (p : Nat) (hp : R.T[p]? = some (i, d, fun x => F (x i))) (hk : ∀ x, okR R ops i d dp x = true)
    (e : Nat) (g : Gent) (hg : R.G[e]? = some g) (ho : only R i (some e) = true) (hs : sync R i g = true) (b : Nat) (cs cs' : Gh → List Value) (hc0 : ∀ x, curA (R.an i) x g = some (.box b (cs x))) (hc1 : ∀ x, curA (i :: R.an i) x g = some (.box b (cs' x)))
    (e2 : Nat) (g2 : Gent) (hg2 : R.G[e2]? = some g2) (hs2 : sync R i g2 = true) (v2 : Value) (t2 : TypeId) (kk : Nat) (l2 : List (List Value)) (hc2 : ∀ x, curA (R.an i) x g2 = some (.row v2 t2 kk l2))
    (k : FuncId) (args : Gh → Array Value) (hr : ∀ x w, (execOp (evD (rdE R i dp x)) (opAt ops i)).run P w = .ok (.enter k (args x)) w)
    (hc : ∀ x H, Sees R.h H → (∀ (j : Nat) (q : Nat × (Gh → Vw → Prop)), R.F[j]? = some q → (R.an i).contains q.1 = true → q.2 x H) → RS ⟨H.w, [b]⟩ kk v2 l2 → (∀ x ∈ [b], x ∈ H.bad) →
      C1 P k (args x) H b (cs x) (fun v c H' => ∃ u, v = F u ∧ c = cs' (upd x i u) ∧ ∀ (j : Nat) (q : Nat × (Gh → Vw → Prop)), R.F[j]? = some q → q.1 = i → q.2 (upd x i u) H')) : StepAt' P ops Q R i := by
  intro o D x h a w hio hn hd I
  have han := an_done hA hio I hd
  have hcur := (cur_sync (x' := x) I hn han hs).trans (hc0 x)
  have hcur2 := (cur_sync (x' := x) I hn han hs2).trans (hc2 x)
  have hm1 : Ent.box b (cs x) ∈ BD R.G D x := by rw [BD_split hg, hcur]; simp
  have hm2 : Ent.row v2 t2 kk l2 ∈ BD R.G D x := by rw [BD_split hg2, hcur2]; simp
  obtain ⟨j1, hj1⟩ := List.mem_iff_getElem?.1 hm1
  obtain ⟨j2, hj2⟩ := List.mem_iff_getElem?.1 hm2
  have hrow := I.mem.rowLent j2 j1 hj2 hj1
  have hbad := I.mem.boxBad j1 hj1
  obtain ⟨h1, h2, h3, h4⟩ := okR_parts hio (hk x)
  have hB0 := BD_split (D := D) (x := x) hg
  rw [hcur] at hB0
  have hB1 : BD R.G D x = BD (R.G.take e) D x ++ .box b (cs x) :: BD (R.G.drop (e + 1)) D x := by rw [hB0]; simp
  have hbm : b ∈ blk (BD R.G D x) := by rw [hB1]; exact List.mem_flatMap.2 ⟨.box b (cs x), by simp, by simp [Ent.blocks]⟩
  have hbi : (BD R.G D x)[(BD (R.G.take e) D x).length]? = some (.box b (cs x)) := by rw [hB1]; simp
  have hbx : Box w b (cs x) := I.mem.ents (.box b (cs x)) (List.mem_of_getElem? hbi)
  have hcc := hc x ⟨w, blk (BD R.G D x) ++ R.C.bad0⟩ (I.sees.trans I.mem.sees) (fun j q hq hc => hmono q (List.mem_of_getElem? hq) x _ _ I.mem.sees (I.facts q (List.mem_of_getElem? hq) (han _ (by simpa using hc)))) hrow hbad
  refine wpOp_call hio (gOk_wanted hio (rd_fits hio h1 I hd hn) h2) (by rw [run_ev (rd_fits hio h1 I hd hn) h4, ← op_at hio]; exact hr x w) ((hcc (by intro y hy; simp at hy; subst hy; exact hbx) (by simp) (by simp [hbm]) (bad_lt I.mem)).mono ?_)
  rintro e' w' ⟨v, Bo, rfl, hl, hbo, hbn, c, hcs, u, rfl, rfl, hv⟩
  have hBo : Bo = [(b, cs' (upd x i u))] := by
    match Bo, hbn, hcs with
    | [y], hbn, hcs => simp at hbn hcs; obtain ⟨y1, y2⟩ := y; simp at hbn hcs; rw [hbn, hcs]
    | [], hbn, _ => simp at hbn
    | _ :: _ :: _, hbn, _ => simp at hbn
  subst hBo
  obtain ⟨j, s⟩ := I.mem.called1 (cs' := cs' (upd x i u)) hbi (by simpa using hl) (hbo _ (List.mem_singleton.2 rfl))
  refine ⟨F u, rfl, upd x i u, ⟨w', blk (BD R.G D x) ++ R.C.bad0⟩, ?_⟩
  rw [h3]
  have hself : upd x i u i = u := by simp [upd]
  refine I.next hio hT hA hn hd ?_ s (hi.at_t I hn u) (.inl ⟨d, _, List.mem_of_getElem? hp, by simp only [hself]⟩) (facts_next hi hmono I hn u s hv)
  rw [only_some ho hg, at_next I hn han hs, hc1, hi.at_g I hn u _ mem_take, hi.at_g I hn u _ mem_drop]
  have hset : (BD R.G D x).set (BD (R.G.take e) D x).length (.box b (cs' (upd x i u))) = BD (R.G.take e) D x ++ .box b (cs' (upd x i u)) :: BD (R.G.drop (e + 1)) D x := by
    rw [hB1]; simp
  rw [hset] at j
  have := j.putN d (F u)
  simpa using this
end

end Go.Proofs.Ytgjndkphfabnnaa

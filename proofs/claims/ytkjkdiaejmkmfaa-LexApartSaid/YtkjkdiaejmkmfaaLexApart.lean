/-
  For every text LexApart returns true: the tokens' texts with blanks between them are the same tokens. No condition.
-/
import Derived.Test.YtkjkdiaejmkmfaaLaw
import Derived.Test.YtkjkdiaejmkmfaaLexG
import Derived.Test.YtkjkdiaejmkmfaaLexS
import Derived.Test.YtkjkdiaejmkmfaaLexU
import Derived.Test.YtkjkdiaejmkmfaaShelf
namespace Go.Proofs.Ytkjkdiaejmkmfaa
open Go.RowKit

theorem infoStr : (Try.prog.info? 9).map (fun i => (i.zero, i.size, i.bytes)) = some (some (.string ⟨#[]⟩), 1, 16) := by kernel_rfl
theorem lexAB : ∃ a b c, lexF [97, 60, 61, 98] = .ok [a, b, c] := ⟨_, _, _, rfl⟩

theorem covers_len (l : List UInt8) : ∀ (ts : List TokA) (p : Nat), Covers l p ts → ∀ x ∈ ts, x.t.s.length ≤ l.length
  | [], _, _, x, h => by simp at h
  | y :: ts, p, hc, x, h => by
    obtain ⟨-, -, -, h1, -, h2⟩ := hc
    rcases List.mem_cons.1 h with rfl | h
    · omega
    · exact covers_len l ts _ h2 x h

theorem tail_len (m : Nat) : ∀ (r : List (List UInt8)), (∀ x ∈ r, x.length ≤ m) → (Lib.joinTail [32] r).length ≤ r.length * (m + 1)
  | [], _ => by simp [Lib.joinTail]
  | x :: r, h => by
    have ih := tail_len m r (fun y hy => h y (by simp [hy]))
    have hx := h x (by simp)
    have e : Lib.joinTail [32] (x :: r) = [32] ++ x ++ Lib.joinTail [32] r := by simp [Lib.joinTail]
    have e2 : (x :: r).length * (m + 1) = r.length * (m + 1) + (m + 1) := by rw [List.length_cons, Nat.succ_mul]
    rw [e, e2, List.length_append, List.length_append]
    simp only [List.length_cons, List.length_nil]
    omega
theorem join_len (m : Nat) (r : List (List UInt8)) (h : ∀ x ∈ r, x.length ≤ m) : (Lib.join r [32]).length ≤ r.length * (m + 1) := by
  cases r with
  | nil => simp [Lib.join_nil]
  | cons x r =>
    have e2 : (x :: r).length * (m + 1) = r.length * (m + 1) + (m + 1) := by rw [List.length_cons, Nat.succ_mul]
    rw [Lib.join_cons, List.length_append, e2]
    have h1 := tail_len m r (fun y hy => h y (by simp [hy]))
    have h2 := h x (by simp)
    omega

@[reducible] def tstr (a : TokA) : Value := .string ⟨a.t.s.toArray⟩

/-- The tokens' texts joined. -/
theorem join_any {w : World} {base : Nat} {v : Value} {ts : List TokA} (h : Own w base 9 1 v ts.length (ts.map tstr)) (hlen : (Lib.join (ts.map (·.t.s)) [32]).length ≤ 140737488355328) (hn : ts.length ≤ 1000) :
    Calls Try.prog 5 #[v, .string ⟨#[32]⟩] w (Gives (.string ⟨(Lib.join (ts.map (·.t.s)) [32]).toArray⟩) w) := by
  obtain ⟨h⟩ := h
  rcases h.2 with ⟨rfl, h0⟩ | ⟨g, cap, cur, rfl, hb, hg, hc, -, -, -⟩
  · have : ts = [] := List.length_eq_zero_iff.1 h0
    subst this
    exact (Try.strings_Join_none none 0 ⟨#[32]⟩ w).mono fun e w' ⟨he, hw⟩ => ⟨he, by rw [hw]; exact Below.refl _ _⟩
  · have hm : (ts.map fun a => (⟨a.t.s.toArray⟩ : ByteArray)).map (·.data.toList) = ts.map (·.t.s) := by rw [List.map_map]; exact List.map_congr_left fun a _ => rfl
    have hj := Try.strings_Join g 0 cap (ts.map fun a => (⟨a.t.s.toArray⟩ : ByteArray)) ⟨#[32]⟩ w (fun j x hx => by
      rw [List.getElem?_map] at hx
      cases e : ts[j]? with
      | none => rw [e] at hx; simp at hx
      | some a =>
        rw [e] at hx; simp at hx; subst hx
        have := h.cells (g := g) rfl j (tstr a) (by rw [List.getElem?_map, e]; rfl)
        rw [show ((⟨g, 0, none⟩ : Addr).add j) = ⟨g, 0 + j, none⟩ from by unfold Addr.add; split <;> simp_all] at this
        exact this) (Array.getElem?_eq_some_iff.1 hg).1 (by rw [List.length_map]; omega) (by rw [List.length_map]; exact hc) (by rw [hm]; exact hlen)
    rw [hm, List.length_map] at hj
    exact hj.mono fun e w' ⟨he, hw⟩ => ⟨he, hw⟩

set_option maxRecDepth 100000 in
set_option maxHeartbeats 2000000 in
theorem same_tok (t : Tok) (a b : Int) (w : World) : Calls Try.prog 7 #[tokC t a, tokC t b] w (Gives (.bool true) w) := by
  obtain ⟨kd, s, vk, vn, vs⟩ := t
  have bx1 := (Box.new w #[.int .i64 kd, .int .i64 a, .string ⟨s.toArray⟩, .int .i64 vk, .int .i64 vn, .string ⟨vs.toArray⟩] 30).alloc (.cells #[.int .i64 kd, .int .i64 b, .string ⟨s.toArray⟩, .int .i64 vk, .int .i64 vn, .string ⟨vs.toArray⟩] 30)
  have BX1 := Lib.hid bx1
  clear bx1
  have bx2 := Box.new (w.alloc (.cells #[.int .i64 kd, .int .i64 a, .string ⟨s.toArray⟩, .int .i64 vk, .int .i64 vn, .string ⟨vs.toArray⟩] 30)) #[.int .i64 kd, .int .i64 b, .string ⟨s.toArray⟩, .int .i64 vk, .int .i64 vn, .string ⟨vs.toArray⟩] 30
  rw [show (w.alloc (.cells #[.int .i64 kd, .int .i64 a, .string ⟨s.toArray⟩, .int .i64 vk, .int .i64 vn, .string ⟨vs.toArray⟩] 30)).heap.size = w.heap.size + 1 from by simp] at bx2
  have BX2 := Lib.hid bx2
  clear bx2
  have bw := bthen ((Below.refl w.heap.size w).alloc (Nat.le_refl _) (.cells #[.int .i64 kd, .int .i64 a, .string ⟨s.toArray⟩, .int .i64 vk, .int .i64 vn, .string ⟨vs.toArray⟩] 30)) ((Below.refl _ _).alloc (Nat.le_refl _) (.cells #[.int .i64 kd, .int .i64 b, .string ⟨s.toArray⟩, .int .i64 vk, .int .i64 vn, .string ⟨vs.toArray⟩] 30))
  have BW := Lib.hid bw
  clear bw
  go_enter Try.func7, Try.ntmps7
  have hx := BX1.out
  have hy := BX2.out
  have hw := BW.out
  clear BX1 BX2 BW
  have x0 := hx.cells 0 _ rfl
  have x1 := hx.cells 1 _ rfl
  have x2 := hx.cells 2 _ rfl
  have x3 := hx.cells 3 _ rfl
  have x4 := hx.cells 4 _ rfl
  have x5 := hx.cells 5 _ rfl
  have y0 := hy.cells 0 _ rfl
  have y1 := hy.cells 1 _ rfl
  have y2 := hy.cells 2 _ rfl
  have y3 := hy.cells 3 _ rfl
  have y4 := hy.cells 4 _ rfl
  have y5 := hy.cells 5 _ rfl
  go_wp2_with fail
  go_ret
  exact ⟨rfl, hw⟩

set_option maxRecDepth 100000 in
set_option maxHeartbeats 4000000 in
theorem equal_toks (v u : Value) (ts us : List TokA) (w : World) (hv : IsRows w 6 v (ts.map tcells)) (hu : IsRows w 6 u (us.map tcells)) (he : us.map (·.t) = ts.map (·.t)) (hn : ts.length ≤ 1000) :
    Calls Try.prog 6 #[v, u, .func (.func 7) #[] #[]] w (Gives (.bool true) w) := by
  have hl : us.length = ts.length := by have := congrArg List.length he; simpa using this
  obtain ⟨A, cap, rfl, hcap, hr⟩ := hv
  obtain ⟨A', cap', rfl, hcap', hr'⟩ := hu
  rw [List.length_map] at *
  rw [List.length_map]
  rw [hl] at hcap' ⊢
  have HR := Lib.hid hr
  have HR' := Lib.hid hr'
  have HE := Lib.hid he
  have HL := Lib.hid hl
  clear hr hr' he hl
  go_enter Try.func6, Try.ntmps6
  go_wp2_with fail
  go_loopw [17] (fun n wr => ∃ k : Nat, k ≤ ts.length ∧ n = .int .i64 k ∧ Below w.heap.size w wr) (fun n _ => ts.length - (intOf n).toNat)
  case atStart => exact ⟨0, Nat.zero_le _, rfl, Below.refl _ _⟩
  case round =>
    obtain ⟨k, hk, rfl, hb⟩ := hrel
    by_cases hlt : k < ts.length
    · obtain ⟨d, hd⟩ : ∃ d, ts[k]? = some d := ⟨_, List.getElem?_eq_getElem hlt⟩
      obtain ⟨d', hd'⟩ : ∃ d, us[k]? = some d := ⟨_, List.getElem?_eq_getElem (by rw [HL.out]; exact hlt)⟩
      have ht : d'.t = d.t := by
        have := congrArg (fun l : List Tok => l[k]?) HE.out
        simp only [List.getElem?_map, hd, hd', Option.map_some, Option.some.injEq] at this
        exact this
      obtain ⟨b, off, rfl, hbl, hc⟩ : ∃ b off, A = some ⟨b, off, none⟩ ∧ b < w.heap.size ∧ ∀ j u, (tcells d)[j]? = some u → w.cell? ⟨b, off + k * 6 + j, none⟩ = some u := by
        rcases HR.out with h0 | ⟨b, off, e, hbl, hc⟩
        · simp at h0; subst h0; simp at hlt
        · exact ⟨b, off, e, hbl, hc k _ (by rw [List.getElem?_map, hd]; rfl)⟩
      obtain ⟨b2, off2, rfl, hbl2, hc2⟩ : ∃ b off, A' = some ⟨b, off, none⟩ ∧ b < w.heap.size ∧ ∀ j u, (tcells d')[j]? = some u → w.cell? ⟨b, off + k * 6 + j, none⟩ = some u := by
        rcases HR'.out with h0 | ⟨b, off, e, hbl, hc⟩
        · have h2 := HL.out; simp at h0; subst h0; simp at h2; omega
        · exact ⟨b, off, e, hbl, hc k _ (by rw [List.getElem?_map, hd']; rfl)⟩
      have c0 : _ = some _ := (hb.cell (p := ⟨b, off + k * 6, none⟩) hbl).trans (hc 0 _ rfl)
      have c1 : _ = some _ := (hb.cell (p := ⟨b, off + k * 6 + 1, none⟩) hbl).trans (hc 1 _ rfl)
      have c2 : _ = some _ := (hb.cell (p := ⟨b, off + k * 6 + 2, none⟩) hbl).trans (hc 2 _ rfl)
      have c3 : _ = some _ := (hb.cell (p := ⟨b, off + k * 6 + 3, none⟩) hbl).trans (hc 3 _ rfl)
      have c4 : _ = some _ := (hb.cell (p := ⟨b, off + k * 6 + 4, none⟩) hbl).trans (hc 4 _ rfl)
      have c5 : _ = some _ := (hb.cell (p := ⟨b, off + k * 6 + 5, none⟩) hbl).trans (hc 5 _ rfl)
      have e0 : _ = some _ := (hb.cell (p := ⟨b2, off2 + k * 6, none⟩) hbl2).trans (hc2 0 _ rfl)
      have e1 : _ = some _ := (hb.cell (p := ⟨b2, off2 + k * 6 + 1, none⟩) hbl2).trans (hc2 1 _ rfl)
      have e2 : _ = some _ := (hb.cell (p := ⟨b2, off2 + k * 6 + 2, none⟩) hbl2).trans (hc2 2 _ rfl)
      have e3 : _ = some _ := (hb.cell (p := ⟨b2, off2 + k * 6 + 3, none⟩) hbl2).trans (hc2 3 _ rfl)
      have e4 : _ = some _ := (hb.cell (p := ⟨b2, off2 + k * 6 + 4, none⟩) hbl2).trans (hc2 4 _ rfl)
      have e5 : _ = some _ := (hb.cell (p := ⟨b2, off2 + k * 6 + 5, none⟩) hbl2).trans (hc2 5 _ rfl)
      obtain ⟨⟨kd, s, vk, vn, vs⟩, a1⟩ := d
      obtain ⟨t2, a2⟩ := d'
      simp only at ht
      subst ht
      simp only at c0 c1 c2 c3 c4 c5 e0 e1 e2 e3 e4 e5
      have g1 : b < wr.heap.size := Nat.lt_of_lt_of_le hbl hb.size
      have g2 : b2 < wr.heap.size := Nat.lt_of_lt_of_le hbl2 hb.size
      have hb2 := Lib.hid hb
      clear hd hd' hc hc2 hb
      go_wp2_with fail
      with_reducible refine (same_tok ⟨kd, s, vk, vn, vs⟩ a1 a2 _).mono ?_
      rintro e u1 ⟨rfl, hb⟩
      have hb3 := Lib.hid ((((hb2.out.alloc hb2.out.size _).alloc (by have := hb2.out.size; simp; omega) _)).trans (hb.mono (by have := hb2.out.size; simp; omega)))
      clear hb
      go_wp2_with fail
      go_roundw
      case rel => exact ⟨k + 1, by omega, by go_num, hb3.out⟩
      case measure => simp [intOf]; omega
    · have hkn : k = ts.length := by omega
      subst hkn
      go_wp2_with fail
      go_ret
      exact ⟨rfl, hb⟩

theorem rows3 {w : World} {v : Value} {a b c : TokA} (h : IsRows w 6 v [tcells a, tcells b, tcells c]) : ∃ A cap, v = .slice A 3 cap := by
  obtain ⟨A, cap, rfl, -⟩ := h
  exact ⟨A, cap, rfl⟩

set_option maxRecDepth 100000 in
set_option maxHeartbeats 8000000 in
theorem lexApart_walk (s : ByteArray) (w : World) (hz : s.size ≤ reachBytes) : Calls Try.prog 3 #[.string s] w fun e w' => e = .returned (.bool true) ∧ Below w.heap.size w w' := by
  have hs9 : s.size ≤ 9223372036854775806 := by unfold reachBytes at hz; omega
  obtain ⟨t1, t2, t3, hab⟩ := lexAB
  have hone := fun w => tokens_ok (L := [97, 60, 61, 98]) ⟨#[97, 60, 61, 98]⟩ w rfl (by decide) hab
  have H1 := Lib.hid hone
  have hlen : s.data.toList.length = s.size := by simp
  clear hone hz hab
  by_cases c1 : 160 < s.size
  · have hl := fun w => tokens_long s w c1 (by omega)
    have HL := Lib.hid hl
    clear hl c1 hlen
    go_enter Try.func3, Try.ntmps3
    go_wp2_with fail
    with_reducible refine (HL.out _).mono ?_
    rintro e w' ⟨rfl, rfl⟩
    go_wp2_with fail
    with_reducible refine (H1.out _).mono ?_
    rintro e u1 ⟨v, rfl, hb, hv, -⟩
    obtain ⟨A1, cap1, rfl⟩ := rows3 hv
    have hw := hb
    clear hb hv
    go_wp2_with fail
    go_ret
    exact ⟨rfl, hw⟩
  · have hle : s.data.toList.length ≤ 160 := by rw [hlen]; omega
    cases hx : lexF s.data.toList with
    | error ae =>
      obtain ⟨a, er⟩ := ae
      have hl := fun w => tokens_err s w rfl hle hx
      have he := lexGo_err _ _ _ _ _ _ hx
      have e0 : (er == 0) = false := beq_eq_false_iff_ne.2 (by omega)
      have HL := Lib.hid hl
      clear hl c1 hlen hx hle he
      go_enter Try.func3, Try.ntmps3
      go_wp2_with fail
      with_reducible refine (HL.out _).mono ?_
      rintro e u0 ⟨rfl, hb⟩
      have hw := hb
      clear hb
      go_wp2_with fail
      with_reducible refine (H1.out _).mono ?_
      rintro e u1 ⟨v, rfl, hb, hv, -⟩
      obtain ⟨A1, cap1, rfl⟩ := rows3 hv
      replace hw := hw.trans (hb.mono hw.size)
      clear hb hv
      go_wp2_with fail
      go_ret
      exact ⟨rfl, hw⟩
    | ok ts =>
      have hl := fun w => tokens_ok s w rfl hle hx
      rw [hlen] at hl
      have HL := Lib.hid hl
      obtain ⟨us, hj, hsame⟩ := lexF_join hx
      have hcl := covers_len _ _ _ (lexF_covers hx)
      rw [hlen] at hcl
      have hjl := join_len 160 (ts.map (·.t.s)) (fun x hx => by
        obtain ⟨y, hy, rfl⟩ := List.mem_map.1 hx
        have := hcl y hy
        omega)
      rw [List.length_map] at hjl
      have HJL := Lib.hid hjl
      have HS := Lib.hid hsame
      have hs160 : s.size ≤ 160 := by omega
      obtain ⟨i0, hi, hz0, hz1, hz2⟩ := info_parts infoStr
      clear hl c1 hlen hx hle hcl hjl hsame
      go_enter Try.func3, Try.ntmps3
      go_wp2_with fail
      with_reducible refine (HL.out _).mono ?_
      rintro e u0 ⟨v0, rfl, hb, hv0, hts⟩
      have hw := hb
      clear hb
      go_wp2_with fail
      with_reducible refine (H1.out _).mono ?_
      rintro e u1 ⟨v, rfl, hb, hv, -⟩
      obtain ⟨A1, cap1, rfl⟩ := rows3 hv
      replace hw := hw.trans (hb.mono hw.size)
      replace hv0 := hv0.keep hb
      clear hb hv
      obtain ⟨A0, cap0, rfl, hcap0, hr0⟩ := hv0
      rw [List.length_map] at hcap0 ⊢
      have hv0 : IsRows u1 6 (.slice A0 ts.length cap0) (ts.map tcells) := ⟨A0, cap0, by rw [List.length_map], by rw [List.length_map]; exact hcap0, hr0⟩
      have HV0 := Lib.hid hv0
      have HR := Lib.hid hr0
      clear hv0 hr0
      go_wp2_with fail
      go_loopw [9, 37] (fun v i wr => ∃ k : Nat, k ≤ ts.length ∧ i = .int .i64 k ∧ Own wr u1.heap.size 9 1 v k ((ts.take k).map tstr) ∧ Below u1.heap.size u1 wr) (fun _ i _ => ts.length - (intOf i).toNat)
      case atStart => exact ⟨0, Nat.zero_le _, rfl, ⟨World.ownsRow_nil _ _ _ _⟩, Below.refl _ _⟩
      case round =>
        obtain ⟨k, hk, rfl, hown, hb⟩ := hrel
        by_cases hlt : k < ts.length
        · obtain ⟨d, hd⟩ : ∃ d, ts[k]? = some d := ⟨_, List.getElem?_eq_getElem hlt⟩
          have htk := take_snoc' ts k d hd
          obtain ⟨b, off, rfl, hbl, hc⟩ : ∃ b off, A0 = some ⟨b, off, none⟩ ∧ b < u1.heap.size ∧ ∀ j u, (tcells d)[j]? = some u → u1.cell? ⟨b, off + k * 6 + j, none⟩ = some u := by
            rcases HR.out with h0 | ⟨b, off, e, hbl, hc⟩
            · simp at h0; subst h0; simp at hlt
            · exact ⟨b, off, e, hbl, hc k _ (by rw [List.getElem?_map, hd]; rfl)⟩
          have c0 : _ = some _ := (hb.cell (p := ⟨b, off + k * 6, none⟩) hbl).trans (hc 0 _ rfl)
          have c1 : _ = some _ := (hb.cell (p := ⟨b, off + k * 6 + 1, none⟩) hbl).trans (hc 1 _ rfl)
          have c2 : _ = some _ := (hb.cell (p := ⟨b, off + k * 6 + 2, none⟩) hbl).trans (hc 2 _ rfl)
          have c3 : _ = some _ := (hb.cell (p := ⟨b, off + k * 6 + 3, none⟩) hbl).trans (hc 3 _ rfl)
          have c4 : _ = some _ := (hb.cell (p := ⟨b, off + k * 6 + 4, none⟩) hbl).trans (hc 4 _ rfl)
          have c5 : _ = some _ := (hb.cell (p := ⟨b, off + k * 6 + 5, none⟩) hbl).trans (hc 5 _ rfl)
          obtain ⟨⟨kd, sx, vk, vn, vs⟩, a1⟩ := d
          simp only at c0 c1 c2 c3 c4 c5
          have HTK := Lib.hid htk
          clear hd hc htk
          go_upto_region 11 with (fail)
          clear c0 c1 c2 c3 c4 c5
          have ht := Box.new wr #[.int .i64 kd, .int .i64 a1, .string ⟨sx.toArray⟩, .int .i64 vk, .int .i64 vn, .string ⟨vs.toArray⟩] 30
          replace hown := hown.alloc (.cells #[.int .i64 kd, .int .i64 a1, .string ⟨sx.toArray⟩, .int .i64 vk, .int .i64 vn, .string ⟨vs.toArray⟩] 30)
          have d_gt := hb.size
          replace hb := hb.alloc (by have := hb.size; omega) (.cells #[.int .i64 kd, .int .i64 a1, .string ⟨sx.toArray⟩, .int .i64 vk, .int .i64 vn, .string ⟨vs.toArray⟩] 30)
          have Z_V1 := Lib.hid (show (wr.alloc (.cells #[.int .i64 kd, .int .i64 a1, .string ⟨sx.toArray⟩, .int .i64 vk, .int .i64 vn, .string ⟨vs.toArray⟩] 30)).heap.size = wr.heap.size + 1 from by simp)
          generalize wr.alloc (.cells #[.int .i64 kd, .int .i64 a1, .string ⟨sx.toArray⟩, .int .i64 vk, .int .i64 vn, .string ⟨vs.toArray⟩] 30) = V1 at *
          generalize wr.heap.size = gt at *
          have x0 := ht.cells 0 _ rfl
          have x1 := ht.cells 1 _ rfl
          have x2 := ht.cells 2 _ rfl
          have x3 := ht.cells 3 _ rfl
          have x4 := ht.cells 4 _ rfl
          have x5 := ht.cells 5 _ rfl
          have hal' := hown.alloc (.cells #[.string ⟨sx.toArray⟩] 9)
          have hbx := Box.new V1 #[.string ⟨sx.toArray⟩] 9
          have hwa := hb.alloc hb.size (.cells #[.string ⟨sx.toArray⟩] 9)
          have HAL := Lib.hid (And.intro hal' (And.intro hbx (And.intro hwa hwa.size)))
          clear hal' hbx hwa hown hb
          go_wp2_with (at_builtin; refine wpList_append_own _ rfl (.tmp 41) (.tmp 44) 26 rfl u1.heap.size 9 i0 (.string ⟨#[]⟩) 1 16 Try.underlying26 hi hz0 hz1 hz2 rfl (by decide) _ _ _ rfl HAL.out.1.own ⟨V1.heap.size, 0, none⟩ 1 1 [.string ⟨sx.toArray⟩] rfl rfl (box_add HAL.out.2.1) ?c2 ?c3 ?c4 HAL.out.2.2.2 ?_)
          case c2 => simp [Value.oneCell']
          case c3 => unfold maxLen; omega
          case c4 => omega
          intro v' w1 hown' hgrow _
          have hgb := grown_below HAL.out.1 hgrow HAL.out.2.2.2
          have hw' := HAL.out.2.2.1.trans hgb
          have ALL := Lib.hid (And.intro hown' hw')
          clear hown' hgrow hgb hw' HAL
          clear x0 x1 x2 x3 x4 x5
          clear ht
          go_wp2_with fail
          go_roundw
          case rel =>
            obtain ⟨hown', hw'⟩ := ALL.out
            exact ⟨k + 1, by omega, by go_num, ⟨by rw [HTK.out, List.map_append, List.map_take]; exact hown'⟩, hw'⟩
          case measure => simp [intOf]; omega
        · have hkn : k = ts.length := by omega
          subst hkn
          rw [List.take_length] at hown
          have hts' : ts.length ≤ 160 := by omega
          have hjl2 : (Lib.join (ts.map (·.t.s)) [32]).length ≤ 140737488355328 := by have := HJL.out; have h2 : ts.length * (160 + 1) ≤ 160 * 161 := Nat.mul_le_mul hts' (Nat.le_refl _); omega
          have hJ := fun W (h : Own W u1.heap.size 9 1 u9 ts.length (ts.map tstr)) => join_any h hjl2 (by omega)
          obtain ⟨J, hJJ⟩ : ∃ J, Lib.join (ts.map (·.t.s)) [32] = J := ⟨_, rfl⟩
          rw [hJJ] at hj hJ hjl2
          obtain ⟨js, hjs⟩ : ∃ js : ByteArray, (⟨J.toArray⟩ : ByteArray) = js := ⟨_, rfl⟩
          rw [hjs] at hJ
          have hjd : js.data.toList = J := by rw [← hjs]
          have hjz : js.size = J.length := by rw [← hjd]; simp
          have HJ := Lib.hid hJ
          have HO := Lib.hid hown
          have hrow := (HV0.out).keep hb
          have HROW := Lib.hid hrow
          have hwr := hw.trans (hb.mono hw.size)
          clear hJ hJJ hjs hown hrow hb hw
          by_cases c2 : 160 < js.size
          · have hl2 := fun w => tokens_long js w c2 (by omega)
            have HL2 := Lib.hid hl2
            have c2' : (160 : Int) < (js.size : Int) := by omega
            clear hl2 c2 hjd hjz hj
            go_wp2_with fail
            with_reducible refine (HJ.out _ HO.out).mono ?_
            rintro e u2 ⟨rfl, hb⟩
            have ho2 := Lib.hid (HO.out.keep hb)
            replace hwr := hwr.trans (hb.mono hwr.size)
            clear hb
            go_wp2_with fail
            with_reducible refine (HL2.out _).mono ?_
            rintro e w' ⟨rfl, rfl⟩
            go_wp2_with fail
            with_reducible refine (HJ.out _ ho2.out).mono ?_
            rintro e u3 ⟨rfl, hb⟩
            replace hwr := hwr.trans (hb.mono hwr.size)
            clear hb
            go_wp2_with fail
            go_ret
            exact ⟨rfl, hwr⟩
          · have hl2 := fun w => tokens_ok js w hjd (by omega) hj
            have HL2 := Lib.hid hl2
            have c2' : (js.size : Int) ≤ 160 := by omega
            clear hl2 c2 hjd hjz hj
            go_wp2_with fail
            with_reducible refine (HJ.out _ HO.out).mono ?_
            rintro e u2 ⟨rfl, hb⟩
            have ho2 := Lib.hid (HO.out.keep hb)
            have hrow2 := HROW.out.keep hb
            replace hwr := hwr.trans (hb.mono hwr.size)
            clear hb
            go_wp2_with fail
            with_reducible refine (HL2.out _).mono ?_
            rintro e u4 ⟨vu, rfl, hb, hvu, -⟩
            have ho3 := Lib.hid (ho2.out.keep hb)
            replace hrow2 := hrow2.keep hb
            replace hwr := hwr.trans (hb.mono hwr.size)
            clear hb
            go_wp2_with fail
            with_reducible refine (HJ.out _ ho3.out).mono ?_
            rintro e u5 ⟨rfl, hb⟩
            replace hrow2 := hrow2.keep hb
            replace hvu := hvu.keep hb
            replace hwr := hwr.trans (hb.mono hwr.size)
            have HROW2 := Lib.hid hrow2
            have HVU := Lib.hid hvu
            clear hb hrow2 hvu
            go_wp2_with fail
            with_reducible refine (equal_toks _ _ ts us _ HROW2.out HVU.out HS.out (by omega)).mono ?_
            rintro e u6 ⟨rfl, hb⟩
            replace hwr := hwr.trans (hb.mono hwr.size)
            clear hb
            go_wp2_with fail
            go_ret
            exact ⟨rfl, hwr⟩

namespace lexApartLaw
open Go.ChangeShapes Go.WideShapes Go.ChangeAt Go.RowKit
open Go.ChangeMaps (open_string shut_string)
set_option linter.unusedVariables false

set_option maxRecDepth 100000 in
theorem lifted (os : Os) (started : os.Started) (H : Type) (enc : TypeId × Value → H) :
    ReturnsInHanded {} Try.checked os 3 .any (Rows.lexApartSpec.pre6 enc Try.prog Try.f3 Rows.lexApartRow.domain false) (Rows.lexApartSpec.post enc Try.prog Try.f3 false true false false) := by
  refine returnsInHanded_of_change_sized (C := Try.checked) ownNone started (by kernel_rfl) Try.func3
    (ChangeSpec.witness6 (enc := enc) (C := Try.checked) false ⟨#[], #[.string ByteArray.empty], []⟩ 8 (by kernel_rfl) (by kernel_rfl) (by kernel_rfl) (by kernel_rfl)) ?_
  intro W base args ds gs before hval0 hW hcnd hsz0 _
  have hval : ∀ (j : Nat) t v, Try.f3.params[j]? = some t → args[j]? = some v → Value.okWide Try.prog W .any base t v := hval0
  have hsz : (DataW.weightsEach Try.prog (Try.f3.params.toList ++ Rows.lexApartSpec.plain.varTypes Try.prog) (ds ++ gs)).all (· ≤ reachBytes) = true := hsz0
  have hW' := hW
  obtain ⟨p, q, hA0, hV, rfl, hfz, hnd⟩ := hW
  have hA : DataW.TrodAll enc Try.prog W 0 (fun _ => true) true Try.f3.params.toList args.toList ds p := hA0
  rw [Try.params3] at hA hval hsz
  obtain ⟨v0, vs0, d0, ds0, p0, q0, hargs, rfl, rfl, h0, r0⟩ := trodAll_cons hA
  obtain ⟨rfl, rfl, rfl⟩ := trodAll_nil r0
  obtain rfl : args = #[v0] := by cases args; simp_all
  obtain ⟨rfl, rfl⟩ := trodVars_none hV
  have k0 := h0
  have lt0 : ∀ x ∈ p0, x.block < W.heap.size := by obtain ⟨m, hm⟩ := k0; exact DataW.trod_lt m _ _ _ hm
  obtain ⟨a0, rfl, e0, -, w0⟩ := open_string Try.underlying9 (hval 0 9 v0 rfl rfl) h0
  have z0 : a0.size ≤ reachBytes := by have := sized_string hsz (j := 0) (t := 9) (bytes := a0.data.toList) rfl (by rw [e0]; rfl); simpa using this
  clear hA0 hval0 hsz0
  refine (lexApart_walk a0 W z0).mono fun e W' ⟨he, bel⟩ => ?_
  subst he
  exact ⟨_, rfl, _, _, _, [], _, [], hW', trodAll_mk1 (shut_bool Try.underlying4 _), (trodAll_cons_mk (Below.trod laidOutTrue (by kernel_rfl) (of_decide_eq_true (by kernel_rfl)) k0 bel lt0) trodAll_mk0), rfl, bel.frame _, fun h => by cases h⟩

theorem over : Rows.lexApartRow.holds Try.pinned (OpenSpec.ofChange Rows.lexApartSpec) :=
  OpenClaim.holds_of_wide 3 Try.f3 rfl rfl rfl rfl rfl rfl rfl ⟨rfl, rfl, rfl, rfl, rfl⟩ rfl rfl rfl rfl rfl (by kernel_rfl) Try.func3 (by kernel_rfl)
    (of_decide_eq_true (by kernel_rfl)) (by unfold Func.isWrapper; first | (rw [if_pos (by decide +kernel)]; kernel_rfl) | (rw [if_neg (by decide +kernel)]; exact ⟨rfl, rfl⟩))
    (fun os started H enc _ => lifted os started H enc)

end lexApartLaw
theorem lexApart_holds : Rows.LexApartSaid := lexApartLaw.over
#print axioms lexApart_holds
end Go.Proofs.Ytkjkdiaejmkmfaa

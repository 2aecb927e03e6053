/-
  A printed formula is read as the formula, in plain Lean.
-/
import Derived.Test.YthplkompdehjlaaGreatDoorPrnP
namespace Go.Proofs.YthplkompdehjlaaGreatDoor
open Go.RowKit
set_option linter.unusedVariables false

/-- A token that is no sign or word of the reader's own. -/
def PlainT (t : Tok) : Prop := ∀ s ∈ ([[45], [110, 111, 116], [40], [116, 114, 117, 101], [102, 97, 108, 115, 101], [105, 102], [108, 101, 110]] : List (List UInt8)), (t.kd != 3 && t.s == s) = false
theorem PlainT.quote {t : Tok} (h : t.kd = 3) : PlainT t := fun s _ => by rw [h]; rfl
theorem PlainT.num {t : Tok} {c : UInt8} {r : List UInt8} (h : t.s = c :: r) (hc : 48 ≤ c.toNat ∧ c.toNat ≤ 57) : PlainT t := fun s hs => by
  have : (t.s == s) = false := beq_eq_false_iff_ne.2 (by
    intro e
    rw [h] at e
    simp only [List.mem_cons, List.not_mem_nil, or_false] at hs
    rcases hs with rfl | rfl | rfl | rfl | rfl | rfl | rfl <;> (injection e with e; subst e; revert hc; decide))
  rw [this, Bool.and_false]
theorem PlainT.name {t : Tok} (h : NameOk t.s) : PlainT t := fun s hs => by
  obtain ⟨-, -, ⟨c, hc, hl⟩, -, hk⟩ := h
  have : (t.s == s) = false := beq_eq_false_iff_ne.2 (by
    intro e
    rw [e] at hc hk
    simp only [List.mem_cons, List.not_mem_nil, or_false] at hs
    rcases hs with rfl | rfl | rfl | rfl | rfl | rfl | rfl
    all_goals first
      | (exact absurd hk (by decide))
      | (simp at hc; subst hc; revert hl; decide))
  rw [this, Bool.and_false]
theorem prs_leaf {T : List Tok} {k : Nat} {t : Tok} {r : List Tok} {x : Ex} (ha : TAt T k (t :: r)) (hp : PlainT t)
    (hx : (if t.kd = 2 ∧ isKey t.s = false then PR.ok (refE ⟨t.s.toArray⟩) (k + 1) else if t.kd = 1 ∨ t.kd = 3 then .ok (conV t) (k + 1) else .bad k) = .ok x (k + 1)) : OnO T k x (k + 1) := by
  have h := fun s hs => (ha.is s).trans (hp s hs)
  refine prs_on (h _ (by simp)) (h _ (by simp)) ⟨1, fun f hf => ?_⟩
  obtain ⟨g, rfl⟩ : ∃ g, f = g + 1 := ⟨f - 1, by omega⟩
  show (if isK T k [40] = true then _ else if isK T k [116, 114, 117, 101] = true then _ else if isK T k [102, 97, 108, 115, 101] = true then _ else if isK T k [105, 102] = true then _ else if isK T k [108, 101, 110] = true then _ else _) = _
  rw [h _ (by simp), h _ (by simp), h _ (by simp), h _ (by simp), h _ (by simp)]
  simp only [Bool.false_eq_true, if_false]
  rw [ha.get]
  exact hx
theorem prs_bool {T : List Tok} {k : Nat} {r : List Tok} (b : Bool) (ha : TAt T k (tW (if b then [116, 114, 117, 101] else [102, 97, 108, 115, 101]) :: r)) : OnO T k (.mk 1 2 (if b then 1 else 0) ⟨#[]⟩ ⟨#[]⟩ []) (k + 1) := by
  have h := fun s => ha.is s
  cases b
  all_goals
    refine prs_on ((h _).trans (by decide)) ((h _).trans (by decide)) ⟨1, fun f hf => ?_⟩
    obtain ⟨g, rfl⟩ : ∃ g, f = g + 1 := ⟨f - 1, by omega⟩
    show (if isK T k [40] = true then _ else if isK T k [116, 114, 117, 101] = true then _ else if isK T k [102, 97, 108, 115, 101] = true then _ else _) = _
    rw [h, h, h]
    rfl
theorem prs_call {T : List Tok} {k k' n : Nat} {op : Int} {r : List Tok} {l : List Ex} (ho : (op = 17 ∧ n = 3) ∨ (op = 18 ∧ n = 1)) (ha : TAt T k (tkOp op :: r)) (h : ∃ F, ∀ f, F ≤ f → (prsF T f).ag n 0 [] (k + 1) = .ok l k') : OnO T k (opE op l) k' := by
  have hi := fun s => ha.is s
  obtain ⟨F, h⟩ := h
  rcases ho with ⟨rfl, rfl⟩ | ⟨rfl, rfl⟩
  all_goals
    refine prs_on ((hi _).trans (by decide)) ((hi _).trans (by decide)) ⟨F + 1, fun f hf => ?_⟩
    obtain ⟨g, rfl⟩ : ∃ g, f = g + 1 := ⟨f - 1, by omega⟩
    show (if isK T k [40] = true then _ else if isK T k [116, 114, 117, 101] = true then _ else if isK T k [102, 97, 108, 115, 101] = true then _ else if isK T k [105, 102] = true then _ else if isK T k [108, 101, 110] = true then _ else _) = _
    rw [hi, hi, hi, hi, hi]
    have := h g (by omega)
    simp only [tkOp, sgL, tW] at *
    first
      | (show ((prsF T g).ag 3 0 [] (k + 1)).then _ = _; rw [this]; rfl)
      | (show ((prsF T g).ag 1 0 [] (k + 1)).then _ = _; rw [this]; rfl)

theorem rd_any (T : List Tok) : ∀ (m : Nat) (x : Ex) (l k : Nat), (szE x).1 ≤ m → WfE x → 1 ≤ l → l ≤ 6 → TAt T k (tkE shwL x l) → Rd T l k x (k + (tkE shwL x l).length)
  | 0, x, l, k, hm, _, _, _, _ => by have := szE_pos x; omega
  | m + 1, x, l, k, hm, hw, hl1, hl6, hat => by
    have IH := rd_any T m
    have hse := szE_eq x
    have hwt := hw.top
    have hwl := hw.list
    rw [hse] at hm
    obtain ⟨op, kk, n, s, nm, args⟩ := x
    simp only [Ex.args, TopOk, Ex.op, Ex.k, Ex.n, Ex.s, Ex.nm] at hm hwt hwl
    have hIH : ∀ y ∈ args, ∀ l k, 1 ≤ l → l ≤ 6 → TAt T k (tkE shwL y l) → Rd T l k y (k + (tkE shwL y l).length) := fun y hy l k => IH y l k (by have := (szL_mem hy).1; omega) (hwl.get hy)
    have hb : ∀ k, TAt T k (bdT shwL op kk n s nm (tkL shwL args (lvsO op))) → (6 ≤ lvO op → OnO T k (.mk op kk n s nm args) (k + (bdT shwL op kk n s nm (tkL shwL args (lvsO op))).length)) ∧
        (lvO op ≤ 5 → ∀ l, l ≤ lvO op → Rd T l k (.mk op kk n s nm args) (k + (bdT shwL op kk n s nm (tkL shwL args (lvsO op))).length)) := by
      intro k ha
      rcases hwt with ⟨h1, h2, h3, h4, h5⟩ | ⟨h1, h2, h3, h4, h5, h6⟩ | ⟨h1, h2, h3, h4, h5, h6, h7⟩
      · have hlv : lvO op = 7 := by rw [h1]; rfl
        have ea : args = [] := List.length_eq_zero_iff.1 h5
        have hbt : bdT shwL op kk n s nm (tkL shwL args (lvsO op)) = [conT kk n (shwL kk n s) s.data.toList] := by unfold bdT; rw [if_pos h1]
        rw [hbt] at ha ⊢
        refine ⟨fun _ => ?_, fun q => by omega⟩
        subst h1 h4 ea
        rcases h2 with ⟨rfl, g, rfl⟩ | ⟨rfl, g, rfl⟩ | ⟨rfl, rfl, g1, g2⟩
        · obtain ⟨u, rfl⟩ : ∃ u : Nat, n = (u : Int) := ⟨n.toNat, by have := h3 rfl; omega⟩
          obtain ⟨c, r, e, e1, e2⟩ := dec_head u
          refine prs_leaf ha (PlainT.num (c := c) (r := r) ?_ ⟨e1, e2⟩) ?_
          · show (Lib.itoa (u : Int)).toArray.toList = _; rw [Lib.itoa_nonneg, e]
          · simp [conT, conV]
        · rcases g with rfl | rfl
          · exact prs_bool false ha
          · exact prs_bool true ha
        · refine prs_leaf ha (PlainT.quote rfl) ?_
          simp [conT, conV]
      · have hlv : lvO op = 7 := by rw [h1]; rfl
        have ea : args = [] := List.length_eq_zero_iff.1 h6
        have hbt : bdT shwL op kk n s nm (tkL shwL args (lvsO op)) = [tW nm.data.toList] := by unfold bdT; rw [if_neg (by omega), if_pos h1]
        rw [hbt] at ha ⊢
        refine ⟨fun _ => ?_, fun q => by omega⟩
        subst h1 h3 h4 h5 ea
        refine prs_leaf ha (PlainT.name h2) ?_
        rw [if_pos ⟨rfl, h2.2.2.2.2⟩]
        rfl
      · rcases lv7 h1 h2 with ⟨q7, q⟩ | ⟨q6, q⟩ | ⟨q1, q5, o5, o16⟩
        · have hls : lvsO op = [] := by rcases q with rfl | rfl <;> decide
          have hbt : bdT shwL op kk n s nm (tkL shwL args (lvsO op)) = tkOp op :: tS [40] :: (commaT (args.map (tkE shwL · 1)) ++ [tS [41]]) := by unfold bdT; rw [if_neg (by omega), if_neg (by omega), if_pos q7, hls, tkL_nil]
          rw [hbt] at ha ⊢
          refine ⟨fun _ => ?_, fun z => by omega⟩
          subst h3 h4 h5 h6
          have hne : args.map (tkE shwL · 1) ≠ [] := by
            intro e
            have := congrArg List.length e
            simp only [List.length_map, List.length_nil] at this
            rw [h7] at this
            rcases q with rfl | rfl <;> revert this <;> decide
          have hag := prs_ag args.length args (args.map (tkE shwL · 1)) [] 0 (k + 1) (by simp) (by simp) (fun z => by omega) (fun _ => ⟨hne, ha.tail⟩) (fun j p x t e1 e2 e3 => by
            rw [List.getElem?_map, e1] at e2
            simp only [Option.map_some, Option.some.injEq] at e2
            subst e2
            exact hIH x (List.mem_of_getElem? e1) 1 p (by omega) (by omega) e3)
          rw [if_neg hne] at hag
          have hfin := prs_call (n := args.length) (op := op) (by rcases q with rfl | rfl <;> rw [h7] <;> decide) ha hag
          have hk : k + 1 + (tS [44] :: commaT (args.map (tkE shwL · 1)) ++ [tS [41]]).length = k + (tkOp op :: tS [40] :: (commaT (args.map (tkE shwL · 1)) ++ [tS [41]])).length := by simp; omega
          rw [← hk]
          exact hfin
        · have hls : lvsO op = [6] := by rcases q with rfl | rfl <;> decide
          have har : args.length = 1 := by rw [h7]; rcases q with rfl | rfl <;> decide
          obtain ⟨y, rfl⟩ : ∃ y, args = [y] := by
            cases args with
            | nil => simp at har
            | cons a b => cases b with | nil => exact ⟨a, rfl⟩ | cons c d => simp at har
          have hbt : bdT shwL op kk n s nm (tkL shwL [y] (lvsO op)) = tkOp op :: tkE shwL y 6 := by unfold bdT; rw [if_neg (by omega), if_neg (by omega), if_neg (by omega), if_pos q, hls]; simp [tkL]
          rw [hbt] at ha ⊢
          refine ⟨fun _ => ?_, fun z => by omega⟩
          subst h3 h4 h5 h6
          have := prs_sg q ha ((hIH y (by simp) 6 (k + 1) (by omega) (by omega) ha.tail).on rfl)
          rw [List.length_cons, show k + ((tkE shwL y 6).length + 1) = k + 1 + (tkE shwL y 6).length by omega]
          exact this
        · have hls : lvsO op = [if lvO op = 3 then 4 else lvO op, lvO op + 1] := by unfold lvsO; rw [if_neg (by omega), if_pos ⟨o5, o16⟩]
          have har : args.length = 2 := by rw [h7]; unfold arity; rw [if_neg (by omega), if_neg (by omega), if_neg (by omega)]
          obtain ⟨y, z, rfl⟩ : ∃ y z, args = [y, z] := by
            cases args with
            | nil => simp at har
            | cons a b => cases b with | nil => simp at har | cons c d => cases d with | nil => exact ⟨a, c, rfl⟩ | cons e f => simp at har
          have hbt : bdT shwL op kk n s nm (tkL shwL [y, z] (lvsO op)) = tkE shwL y (if lvO op = 3 then 4 else lvO op) ++ tkOp op :: tkE shwL z (lvO op + 1) := by unfold bdT; rw [if_neg (by omega), if_neg (by omega), if_neg (by omega), if_neg (by omega), hls]; simp [tkL]
          rw [hbt] at ha ⊢
          refine ⟨fun _ => by omega, fun _ l hl => ?_⟩
          subst h3 h4 h5 h6
          have hs := ha.snd
          have hy := hIH y (by simp) (if lvO op = 3 then 4 else lvO op) k (by split <;> omega) (by split <;> omega) ha.fst
          have hz := hIH z (by simp) (lvO op + 1) _ (by omega) (by omega) hs.tail
          have := rd_two o5 o16 hy (fun l hl => by rw [hs.op, opnT_op o5 o16 l hl]) hz ⟨q1, q5⟩
          rw [List.length_append, List.length_cons, show k + ((tkE shwL y (if lvO op = 3 then 4 else lvO op)).length + ((tkE shwL z (lvO op + 1)).length + 1)) = k + (tkE shwL y (if lvO op = 3 then 4 else lvO op)).length + 1 + (tkE shwL z (lvO op + 1)).length by omega]
          exact Rd.of_lv q5 hl this
    rw [tkE] at hat ⊢
    unfold brT at hat ⊢
    split at hat
    · rename_i hbr
      rw [if_pos hbr]
      have hin := hb (k + 1) hat.tail.fst
      have h1 : Rd T 1 (k + 1) (.mk op kk n s nm args) (k + 1 + (bdT shwL op kk n s nm (tkL shwL args (lvsO op))).length) := by
        have hlo : 1 ≤ lvO op := by
          rcases hwt with ⟨h1, -⟩ | ⟨h1, -⟩ | ⟨h1, h2, -⟩
          · rw [h1]; decide
          · rw [h1]; decide
          · rcases lv7 h1 h2 with ⟨q, -⟩ | ⟨q, -⟩ | ⟨q, -⟩ <;> omega
        rcases Nat.lt_or_ge (lvO op) 6 with q | q
        · exact hin.2 (by omega) 1 hlo
        · exact Rd.of_on (hin.1 q)
      have := Rd.of_on (l := l) (prs_br hat rfl h1)
      rw [show k + (tS [40] :: (bdT shwL op kk n s nm (tkL shwL args (lvsO op)) ++ [tS [41]])).length = k + 1 + (bdT shwL op kk n s nm (tkL shwL args (lvsO op))).length + 1 by simp; omega]
      exact this
    · rename_i hbr
      rw [if_neg hbr]
      have hin := hb k hat
      rcases Nat.lt_or_ge (lvO op) 6 with q | q
      · exact hin.2 (by omega) l (by omega)
      · exact Rd.of_on (hin.1 q)
/-- A text that gives the tokens of a printed formula, and no others, is read as the formula. -/
theorem read_all {T : List Tok} {x : Ex} (hw : WfE x) (hT : T = tkE shwL x 1) : ∃ F, ∀ f, F ≤ f → (prsF T f).lv 1 0 = .ok x T.length := by
  have h := rd_any T _ x 1 0 (Nat.le_refl _) hw (by omega) (by omega) ⟨[], [], by simp [hT], rfl⟩
  rw [← hT, Nat.zero_add] at h
  have hn : ∀ j, opkT T j T.length = 0 := fun j => opkT_end (List.getElem?_eq_none (Nat.le_refl _))
  exact h.ok (by omega) (fun j _ _ => hn j) (hn 1)
theorem read_br {T : List Tok} {x : Ex} (hw : WfE x) (hT : T = tS [40] :: (tkE shwL x 1 ++ [tS [41]])) : ∃ F, ∀ f, F ≤ f → (prsF T f).lv 1 0 = .ok x T.length := by
  have ha : TAt T 0 (tS [40] :: (tkE shwL x 1 ++ [tS [41]])) := ⟨[], [], by simp [hT], rfl⟩
  have h := prs_br (k' := 0 + 1 + (tkE shwL x 1).length) ha rfl (rd_any T _ x 1 1 (Nat.le_refl _) hw (by omega) (by omega) ha.tail.fst)
  have e : T.length = 0 + 1 + (tkE shwL x 1).length + 1 := by rw [hT]; simp; omega
  have hn : ∀ j, opkT T j T.length = 0 := fun j => opkT_end (List.getElem?_eq_none (Nat.le_refl _))
  rw [← e] at h
  exact (Rd.of_on (l := 1) h).ok (by omega) (fun j _ _ => hn j) (hn 1)

end Go.Proofs.YthplkompdehjlaaGreatDoor

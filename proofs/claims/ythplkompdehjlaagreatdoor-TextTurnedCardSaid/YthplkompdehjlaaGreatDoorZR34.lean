/-
  Contracts of package value: Check at values that may not be, Show, Parse.
-/
import Derived.Test.YthplkompdehjlaaGreatDoorZR9
import Derived.Test.YthplkompdehjlaaGreatDoorZR22
import Derived.Test.YthplkompdehjlaaGreatDoorZR5
import Derived.Test.YthplkompdehjlaaGreatDoorZR33
import Derived.Lib.LaidTab
import Derived.Lib.ItoaLen
import Derived.Lib.IndexBytes
import Derived.Test.YthplkompdehjlaaGreatDoorZR32
import Derived.Test.YthplkompdehjlaaGreatDoorZR25
set_option maxRecDepth 100000
namespace Go.Proofs.YthplkompdehjlaaGreatDoor
open Go.RowKit Go.Sort
set_option linter.unusedVariables false
structure Lk (h:Vw):Prop where
 mx:∃ m,Cells h 0 0 [.int .i64 m]
 tl:3 < h.w.heap.size
 tn:3 ∉ h.bad
 tb : Lib.TabIs Tryz.prog h.w "internal/strconv.uint64pow10" .u64 Lib.pow10Tab
 sy:∃ e,Cells h 4 0 [e]∧(e=.nilIface∨∃ t p,e=.iface t p)
 rg:∃ e,Cells h 5 0 [e]∧(e=.nilIface∨∃ t p,e=.iface t p)
theorem gTab : Tryz.prog.globalNamed "internal/strconv.uint64pow10" = some 3 := by kernel_rfl
theorem Lk.sees {h h':Vw} (l:Lk h) (s:Sees h h'):Lk h':=by
 obtain ⟨⟨m,h1⟩,h2,h3,h4,⟨e,h5,h6⟩,⟨f,h7,h8⟩⟩:=l
 refine ⟨⟨m,h1.sees s⟩,Nat.lt_of_lt_of_le h2 s.size,fun k=>h3 (s.bad _ k h2),?_,⟨e,h5.sees s,h6⟩,⟨f,h7.sees s,h8⟩⟩
 have hb:=s.block _ h2 h3
 unfold Lib.TabIs World.var? at h4 ⊢
 rw [gTab] at h4 ⊢
 simp only [Option.bind_some] at h4 ⊢
 rw [hb]; exact h4
theorem Cells.one {h:Vw} {b:Nat} {v:Value} (c:Cells h b 0 [v]):h.w.cell? ⟨b,0,none⟩=some v:=by
 have:=c.lies 0 v rfl
 simpa using this
theorem C0.at_ {f:FuncId} {args:Array Value} {v:Value} {h:Vw} (hc:Calls Tryz.prog f args h.w fun e w'=>e=.returned v∧Below h.w.heap.size h.w w'):C0 Tryz.prog f args h (fun r _=>r=v):=by
 intro _ _ _ _
 refine hc.mono ?_
 rintro e w' ⟨rfl,hb⟩
 exact ⟨_,[],rfl,Low.of_below hb,(fun x hx=>by cases hx),rfl,rfl⟩
theorem below_gd (w:World) (k:Nat) (os:Array Obj):Below w.heap.size w (grow (w.drewN k) os):=by
 refine ⟨rfl,rfl,rfl,by simp [grow],fun j hj=>?_⟩
 show (w.heap++os)[j]?=_
 rw [Array.getElem?_append_left hj]
theorem c_itoa (n:Int) (h:Vw) (l:Lk h) (h0 : -9223372036854775808≤n) (h1:n≤9223372036854775807):C0 Tryz.prog 82 #[.int .i64 n] h (fun r _=>r=.string ⟨(Lib.itoa n).toArray⟩) :=
 C0.at_ ((Tryz.strconv_Itoa n h0 h1 h.w l.tb).mono fun e w' ⟨he,k,os,hw⟩=>⟨he,by subst hw; exact below_gd _ _ _⟩)
theorem c_fmt (b:Bool) (h:Vw):C0 Tryz.prog 83 #[.bool b] h (fun r _=>r=.string (if b then btrue else bfalse)) :=
 C0.at_ ((Tryz.strconv_FormatBool b h.w).mono fun e w' ⟨he,hw⟩=>⟨by rw [he]; cases b <;> rfl,by rw [hw]; exact Below.refl _ _⟩)
theorem c_rep (s old new:ByteArray) (h:Vw) (l:Lk h) (hs:s.size≤1000) (h1:1≤old.size) (h2:Lib.countB s old * new.size≤1000000):C0 Tryz.prog 84 #[.string s,.string old,.string new] h (fun r _=>r=.string ⟨(Lib.replaceAll s.data.toList old.data.toList new.data.toList).toArray⟩):=by
 obtain ⟨m,hm⟩:=l.mx
 exact C0.at_ ((Tryz.strings_ReplaceAll s old new m h.w (by omega) hm.one h1 (by omega)).mono fun e w' h=>h)
theorem ck_pend (h:Vw):C0 Tryz.prog 81 #[.agg #[.int .i64 4,.int .i64 0,.string ⟨#[]⟩]] h (fun v _=>v=.int .i64 0):=by
 refine fQ Tryz.func81 (c:=Tryz.f81.body.getD .skip) (N:=50) ?_
 intro hbx hbad Q hQ
 refine go1 70 [.own,.b 0 0,.b 0 1,.b 0 2] [] ?_
 intro b1
 refine hQ.to [Vi 0] (fun H sH=>?_)
 exact rfl
theorem ck_fault (n:Int) (h:Vw) (h0:1≤n) (h1:n≤15):C0 Tryz.prog 81 #[.agg #[.int .i64 5,.int .i64 n,.string ⟨#[]⟩]] h (fun v _=>v=.int .i64 0):=by
 refine fQ Tryz.func81 (c:=Tryz.f81.body.getD .skip) (N:=50) ?_
 intro hbx hbad Q hQ
 refine go1 82 [.own,.b 0 0,.b 0 1,.b 0 1,.b 0 2] [(41,.bool (decide (n < 1)),.bool false),(45,.bool (decide (n > 15)),.bool false)] ?_ (hc:=(And.intro (congrArg Value.bool (decide_eq_false (by omega))) (And.intro (congrArg Value.bool (decide_eq_false (by omega))) (trivial))))
 intro b1
 refine hQ.to [Vi 0] (fun H sH=>?_)
 exact rfl
def OkW (v:Vl):Prop:=v.known∨v=⟨4,0,⟨#[]⟩⟩∨(v.k=5∧1≤v.n∧v.n≤15∧v.s=⟨#[]⟩)
theorem ck_ok (v:Vl) (h:Vw) (hv:OkW v):C0 Tryz.prog 81 #[v.val] h (fun r _=>r=.int .i64 0):=by
 rcases hv with hv | rfl | ⟨h1,h2,h3,h4⟩
 ·exact C0.of_gives (fun w=>value_check v.k v.n v.s w hv) h
 ·exact ck_pend h
 ·obtain ⟨k,n,s⟩:=v
  simp only at h1 h2 h3 h4
  subst h1 h4
  exact ck_fault n h h2 h3
theorem sh_int (n:Int) (h:Vw) (l:Lk h) (hn:Lim n):C0 Tryz.prog 58 #[.agg #[.int .i64 1,.int .i64 n,.string ⟨#[]⟩]] h (fun r _=>r=.tuple #[.string ⟨(Lib.itoa n).toArray⟩,.int .i64 0]):=by
 have hc:=fun H=>ck_ok ⟨1,n,⟨#[]⟩⟩ H (.inl (.inl ⟨rfl,hn,rfl⟩))
 have hi:=fun H q=>c_itoa n H q (by have:=hn.1; omega) (by have:=hn.2; omega)
 refine fQ Tryz.func58 (c:=Tryz.f58.body.getD .skip) (N:=37) ?_
 intro hbx hbad Q hQ
 refine go1 51 [.own,.b 0 0,.cl 81 #[.agg #[Vi 1,Vi n,Ve]] (Vi 0),.b 0 0,.b 0 1,.cl 82 #[Vi n] (.string ⟨(Lib.itoa n).toArray⟩)] [] ?_ (ho:=(And.intro (fun H sH=>hc _) (And.intro (fun H sH=>hi _ (l.sees sH)) (trivial))))
 intro b1
 refine hQ.to [.string ⟨(Lib.itoa n).toArray⟩,Vi 0] (fun H sH=>?_)
 exact rfl
theorem sh_bool (n:Int) (h:Vw) (hn:n=0∨n=1):C0 Tryz.prog 58 #[.agg #[.int .i64 2,.int .i64 n,.string ⟨#[]⟩]] h (fun r _=>r=.tuple #[.string (if n=1 then btrue else bfalse),.int .i64 0]):=by
 have hc:=fun H=>ck_ok ⟨2,n,⟨#[]⟩⟩ H (.inl (.inr (.inl ⟨rfl,hn,rfl⟩)))
 have hi:=fun H=>c_fmt (n == 1) H
 refine fQ Tryz.func58 (c:=Tryz.f58.body.getD .skip) (N:=37) ?_
 intro hbx hbad Q hQ
 refine go1 59 [.own,.b 0 0,.cl 81 #[.agg #[Vi 2,Vi n,Ve]] (Vi 0),.b 0 0,.b 0 1,.cl 83 #[.bool (n == 1)] (.string (if (n == 1) then btrue else bfalse))] [] ?_ (ho:=(And.intro (fun H sH=>hc _) (And.intro (fun H sH=>hi _) (trivial))))
 intro b1
 refine hQ.to [.string (if (n == 1) then btrue else bfalse),Vi 0] (fun H sH=>?_)
 exact by rcases hn with rfl | rfl <;> rfl
theorem sh_pend (h:Vw):C0 Tryz.prog 58 #[.agg #[.int .i64 4,.int .i64 0,.string ⟨#[]⟩]] h (fun r _=>r=.tuple #[.string bqm,.int .i64 0]):=by
 have hc:=fun H=>ck_pend H
 refine fQ Tryz.func58 (c:=Tryz.f58.body.getD .skip) (N:=37) ?_
 intro hbx hbad Q hQ
 refine go1 69 [.own,.b 0 0,.cl 81 #[.agg #[Vi 4,Vi 0,Ve]] (Vi 0),.b 0 0] [] ?_ (ho:=(And.intro (fun H sH=>hc _) (trivial)))
 intro b1
 refine hQ.to [.string ⟨#[63]⟩,Vi 0] (fun H sH=>?_)
 exact rfl
theorem run_catb {t:TypeId} {a b:ByteArray} {c:List UInt8} {P:Program} {w:World} (h:a.size + b.size≤100000) (e:a.data.toList++b.data.toList=c):(binOp .add t (.string a) (.string b)).run P w=.ok (.string ⟨c.toArray⟩) w:=by
 rw [binOp_string_add,run_string_add_sum w a b (by omega)]
 subst e
 have e2:a++b=⟨(a.data.toList++b.data.toList).toArray⟩:=by
  apply ByteArray.ext
  simp
 rw [e2]
theorem sh_fault (n:Int) (h:Vw) (l:Lk h) (h0:1≤n) (h1:n≤15):C0 Tryz.prog 58 #[.agg #[.int .i64 5,.int .i64 n,.string ⟨#[]⟩]] h (fun r _=>r=.tuple #[.string ⟨(33 :: Lib.itoa n).toArray⟩,.int .i64 0]):=by
 have hc:=fun H=>ck_fault n H h0 h1
 have hi:=fun H q=>c_itoa n H q (by omega) (by omega)
 have hlen:(Lib.itoa n).length≤21:=Lib.itoa_length_le n (by omega) (by omega)
 refine fQ Tryz.func58 (c:=Tryz.f58.body.getD .skip) (N:=37) ?_
 intro hbx hbad Q hQ
 refine go1 68 [.own,.b 0 0,.cl 81 #[.agg #[Vi 5,Vi n,Ve]] (Vi 0),.b 0 0,.b 0 1,.cl 82 #[Vi n] (.string ⟨(Lib.itoa n).toArray⟩)] [] ?_ (ho:=(And.intro (fun H sH=>hc _) (And.intro (fun H sH=>hi _ (l.sees sH)) (trivial))))
 intro b1
 refine qQ (.string ⟨(33 :: Lib.itoa n).toArray⟩) (fun w=>nX (op:=.add) (t:=9) (x:=(.const (.string ⟨#[33]⟩))) (y:=(.tmp 35)) (yt:=9) (va:=.string ⟨#[33]⟩) (vb:=.string ⟨(Lib.itoa n).toArray⟩) (by kernel_rfl) (by kernel_rfl) (by kernel_rfl) (by kernel_rfl) (run_catb (by show 1 + Array.size _≤_; simp; omega) (by simp))) ?_
 refine go0 5 [] [] ?_
 refine hQ.to [.string ⟨(33 :: Lib.itoa n).toArray⟩,Vi 0] (fun H sH=>?_)
 exact rfl
theorem esc_len (l:List UInt8):(jK l).length≤2 * l.length:=by
 induction l with
 | nil=>simp [jK]
 | cons c l ih =>
  show (escB c++jK l).length≤_
  have:(escB c).length≤2:=by unfold escB; split <;> simp
  rw [List.length_append,List.length_cons]; omega
theorem sh_text (s:ByteArray) (h:Vw) (l:Lk h) (hk:Vl.known ⟨3,0,s⟩):C0 Tryz.prog 58 #[.agg #[.int .i64 3,.int .i64 0,.string s]] h (fun r _=>r=.tuple #[.string ⟨(34 :: (jK s.data.toList++[34])).toArray⟩,.int .i64 0]):=by
 have hs:s.size≤40:=by
  rcases hk with ⟨q,-⟩ | ⟨q,-⟩ | ⟨-,-,q,-⟩
  ·cases q
  ·cases q
  ·exact q
 have hl:=toList_size s
 have hc:=fun H=>ck_ok ⟨3,0,s⟩ H (.inl hk)
 have c1:∀ (x:ByteArray) (c:UInt8),Lib.countB x ⟨#[c]⟩≤x.size:=fun x c=>Lib.countB_le ⟨#[c]⟩ (by show 1≤1; omega) x.size x (Nat.le_refl _)
 have b1:=c1 s 92
 have e1:Lib.replaceAll s.data.toList [92] [92,92]=s.data.toList.flatMap (rp 92 [92,92]):=replaceAll_one _ _ _ (by decide)
 have l1:(s.data.toList.flatMap (rp 92 [92,92])).length≤2 * s.data.toList.length:=by
  generalize s.data.toList=m
  induction m with
  | nil=>simp
  | cons c m ih =>
   have:(rp 92 [92,92] c).length≤2:=by unfold rp; split <;> simp
   rw [List.flatMap_cons,List.length_append,List.length_cons]; omega
 have z1:(⟨(Lib.replaceAll s.data.toList [92] [92,92]).toArray⟩:ByteArray).size≤80:=by rw [e1]; show (List.toArray _).size≤80; rw [List.size_toArray]; omega
 have b2:=c1 ⟨(Lib.replaceAll s.data.toList [92] [92,92]).toArray⟩ 34
 have hr1:=fun H q=>c_rep s ⟨#[92]⟩ ⟨#[92,92]⟩ H q (by omega) (by decide) (by show _ * 2≤_; omega)
 have hr2:=fun H q=>c_rep ⟨(Lib.replaceAll s.data.toList [92] [92,92]).toArray⟩ ⟨#[34]⟩ ⟨#[92,34]⟩ H q (by omega) (by decide) (by show _ * 2≤_; omega)
 have e2:Lib.replaceAll (Lib.replaceAll s.data.toList [92] [92,92]) [34] [92,34]=jK s.data.toList:=rep_two _
 simp only [e2] at hr2
 have l2:=esc_len s.data.toList
 generalize jK s.data.toList=q at *
 generalize Lib.replaceAll s.data.toList [92] [92,92]=p at *
 refine fQ Tryz.func58 (c:=Tryz.f58.body.getD .skip) (N:=37) ?_
 intro hbx hbad Q hQ
 refine go1 59 [.own,.b 0 0,.cl 81 #[.agg #[Vi 3,Vi 0,.string s]] (Vi 0),.b 0 0,.b 0 2,.cl 84 #[.string s,.string ⟨#[92]⟩,.string ⟨#[92,92]⟩] (.string ⟨p.toArray⟩),.cl 84 #[.string ⟨p.toArray⟩,.string ⟨#[34]⟩,.string ⟨#[92,34]⟩] (.string ⟨q.toArray⟩)] [] ?_ (ho:=(And.intro (fun H sH=>hc _) (And.intro (fun H sH=>hr1 _ (l.sees sH)) (And.intro (fun H sH=>hr2 _ (l.sees sH)) (trivial)))))
 intro b1
 refine qQ (.string ⟨(34 :: q).toArray⟩) (fun w=>nX (op:=.add) (t:=9) (x:=(.const (.string ⟨#[34]⟩))) (y:=(.tmp 28)) (yt:=9) (va:=.string ⟨#[34]⟩) (vb:=.string ⟨q.toArray⟩) (by kernel_rfl) (by kernel_rfl) (by kernel_rfl) (by kernel_rfl) (run_catb (by show 1 + Array.size _≤_; simp; omega) (by simp))) ?_
 refine qQ (.string ⟨(34 :: (q++[34])).toArray⟩) (fun w=>nX (op:=.add) (t:=9) (x:=(.tmp 29)) (y:=(.const (.string ⟨#[34]⟩))) (yt:=9) (va:=.string ⟨(34 :: q).toArray⟩) (vb:=.string ⟨#[34]⟩) (by kernel_rfl) (by kernel_rfl) (by kernel_rfl) (by kernel_rfl) (run_catb (by show Array.size _ + 1≤_; simp; omega) (by simp))) ?_
 refine go0 7 [] [] ?_
 refine hQ.to [.string ⟨(34 :: (q++[34])).toArray⟩,Vi 0] (fun H sH=>?_)
 exact rfl
theorem sh_ok (v:Vl) (h:Vw) (l:Lk h) (hv:OkW v):C0 Tryz.prog 58 #[v.val] h (fun r _=>r=.tuple #[.string (showV v),.int .i64 0]):=by
 obtain ⟨k,n,s⟩:=v
 rcases hv with (⟨h1,h2,h3⟩ | ⟨h1,h2,h3⟩ | ⟨h1,h2,h3⟩) | h1 | ⟨h1,h2,h3,h4⟩
 ·simp only at h1 h3
  subst h1 h3
  exact sh_int n h l h2
 ·simp only at h1 h3
  subst h1 h3
  exact sh_bool n h h2
 ·simp only at h1 h2
  subst h1 h2
  exact sh_text s h l (.inr (.inr ⟨rfl,rfl,h3⟩))
 ·rw [h1]; exact sh_pend h
 ·simp only at h1 h4
  subst h1 h4
  exact sh_fault n h l h2 h3
end Go.Proofs.YthplkompdehjlaaGreatDoor
namespace Go.Proofs.YthplkompdehjlaaGreatDoor
open Go.RowKit
set_option linter.unusedVariables false
def PrsR (A:Option Addr) (C n:Nat) (en:Int) (x:Ex) (k':Nat) (v:Value) (cs:List Value) (H:Vw):Prop :=
 ∃ u,v=.agg #[.int .i64 x.op,.int .i64 x.k,.int .i64 x.n,.string x.s,.string x.nm,.slice (sA u) (sN u) (sC u)]∧cs=rdL (.slice (tkA A C k') (n - k') (C - k')) en∧IsArgs H x (.slice (sA u) (sN u) (sC u))
def PrsA (A:Option Addr) (C n:Nat) (en:Int) (l:List Ex) (k':Nat) (v:Value) (cs:List Value) (H:Vw):Prop :=
 ∃ u vs,v=.slice (sA u) (sN u) (sC u)∧cs=rdL (.slice (tkA A C k') (n - k') (C - k')) en∧RS H 6 (.slice (sA u) (sN u) (sC u)) (mK l vs)∧AllArgs H l vs
structure PC (A:Option Addr) (C n:Nat) (en:Int) (T:List TokA) (f:Nat):Prop where
 lv:∀ (l k b:Nat) (h:Vw) (x:Ex) (k':Nat),RS h 6 (.slice A n C) (kY T)→1≤l→l≤6→(yW (T.map (·.t)) f).lv l k=.ok x k' →
  C1 Tryz.prog 30 #[.pointer (some ⟨b,0,none⟩),.int .i64 (l:Int)] h b (rdL (.slice (tkA A C k) (n - k) (C - k)) en) (PrsR A C n en x k')
 on:∀ (k b:Nat) (h:Vw) (x:Ex) (k':Nat),RS h 6 (.slice A n C) (kY T)→(yW (T.map (·.t)) f).on k=.ok x k' →
  C1 Tryz.prog 60 #[.pointer (some ⟨b,0,none⟩)] h b (rdL (.slice (tkA A C k) (n - k) (C - k)) en) (PrsR A C n en x k')
 wh:∀ (k b:Nat) (h:Vw) (x:Ex) (k':Nat),RS h 6 (.slice A n C) (kY T)→(yW (T.map (·.t)) f).wh k=.ok x k' →
  C1 Tryz.prog 92 #[.pointer (some ⟨b,0,none⟩)] h b (rdL (.slice (tkA A C k) (n - k) (C - k)) en) (PrsR A C n en x k')
 ag:∀ (m k b:Nat) (h:Vw) (l:List Ex) (k':Nat),RS h 6 (.slice A n C) (kY T)→m≤3→(yW (T.map (·.t)) f).ag m 0 [] k=.ok l k' →
  C1 Tryz.prog 123 #[.pointer (some ⟨b,0,none⟩),.int .i64 (m:Int)] h b (rdL (.slice (tkA A C k) (n - k) (C - k)) en) (PrsA A C n en l k')
theorem then_ok {α β:Type} {r:PR α} {g:α→Nat→PR β} {y:β} {k':Nat} (h:r.then g=.ok y k'):∃ x k,r=.ok x k∧g x k=.ok y k':=by
 cases r with
 | ok x k=>exact ⟨x,k,rfl,h⟩
 | bad k=>cases h
 | out=>cases h
theorem args_one {h:Vw} {x:Ex} {op:Int} {u:Value} {b:Nat} (hu:IsArgs h x u) (c:Cells h b 0 (exRow x u)):IsArgs h (opE op [x]) (.slice (some ⟨b,0,none⟩) 1 1):=by
 refine IsArgs.mk (vs:=[u]) ?_ ?_
 ·exact mX (k:=6) (mK [x] [u]) (fun r hr=>by simp [mK] at hr; subst hr; rfl) (by simp [mK]; decide) (by simpa [mK] using c)
 ·show AllArgs h [x] [u]
  unfold AllArgs
  exact ⟨u,[],rfl,hu,by unfold AllArgs; rfl⟩
theorem args_two {h:Vw} {x y:Ex} {op:Int} {u v:Value} {b:Nat} (hu:IsArgs h x u) (hv:IsArgs h y v) (c:Cells h b 0 (exRow x u++exRow y v)):IsArgs h (opE op [x,y]) (.slice (some ⟨b,0,none⟩) 2 2):=by
 refine IsArgs.mk (vs:=[u,v]) ?_ ?_
 ·exact mX (k:=6) (mK [x,y] [u,v]) (fun r hr=>by simp [mK] at hr; rcases hr with rfl | rfl <;> rfl) (by simp [mK]; decide) (by simpa [mK] using c)
 ·show AllArgs h [x,y] [u,v]
  unfold AllArgs
  refine ⟨u,[v],rfl,hu,?_⟩
  unfold AllArgs
  exact ⟨v,[],rfl,hv,by unfold AllArgs; rfl⟩
set_option maxHeartbeats 1000000 in
theorem parse_true (h:Vw):C0 Tryz.prog 122 #[.string ⟨#[116,114,117,101]⟩] h (fun r _=>r=.tuple #[.agg #[.int .i64 2,.int .i64 1,.string ⟨#[]⟩],.int .i64 0]):=by
 have hS:=fun H=>sh_bool 1 H (.inr rfl)
 refine fQ Tryz.func122 (c:=Tryz.f122.body.getD .skip) (N:=62) ?_
 intro hbx hbad Q hQ
 refine go2 76 [.own,.own,.b 0 0,.b 0 0,.cl 58 #[.agg #[Vi 2,Vi 1,Ve]] (.tuple #[.string ⟨#[116,114,117,101]⟩,Vi 0]),.b 0 0,.b 1 0] [] ?_ (ho:=(And.intro (fun H sH=>hS _) (trivial)))
 intro b1 b2
 refine hQ.to [.agg #[Vi 2,Vi 1,Ve],Vi 0] (fun H sH=>?_) (ix:=[1])
 exact rfl
set_option maxHeartbeats 1000000 in
theorem parse_false (h:Vw):C0 Tryz.prog 122 #[.string ⟨#[102,97,108,115,101]⟩] h (fun r _=>r=.tuple #[.agg #[.int .i64 2,.int .i64 0,.string ⟨#[]⟩],.int .i64 0]):=by
 have hS:=fun H=>sh_bool 0 H (.inl rfl)
 refine fQ Tryz.func122 (c:=Tryz.f122.body.getD .skip) (N:=62) ?_
 intro hbx hbad Q hQ
 refine go2 80 [.own,.own,.b 0 0,.b 0 0,.cl 58 #[.agg #[Vi 2,Vi 0,Ve]] (.tuple #[.string ⟨#[102,97,108,115,101]⟩,Vi 0]),.b 0 0,.b 1 0] [] ?_ (ho:=(And.intro (fun H sH=>hS _) (trivial)))
 intro b1 b2
 refine hQ.to [.agg #[Vi 2,Vi 0,Ve],Vi 0] (fun H sH=>?_) (ix:=[1])
 exact rfl
theorem c_key (s:List UInt8) (h:Vw):C0 Tryz.prog 95 #[.string ⟨s.toArray⟩] h (fun v _=>v=.bool (isKey s)):=by
 rcases Bool.eq_false_or_eq_true (isKey s) with hk | hk
 ·rw [hk]; exact C0.of_same (fun w=>key_yes ⟨s.toArray⟩ w hk) h
 ·rw [hk]; exact C0.of_same (fun w=>key_no ⟨s.toArray⟩ w hk) h
section
variable {A:Option Addr} {C:Nat} {T:List TokA}
set_option maxHeartbeats 1000000 in
theorem level_step (n:Nat) (hn:n=T.length) (en:Int) (f:Nat) (IH:∀ g,g≤f→PC A C n en T g) (l k b:Nat) (h:Vw) (x:Ex) (k':Nat) (hr:RS h 6 (.slice A n C) (kY T)) (l1:1≤l) (l6:l≤6) (hp:(yW (T.map (·.t)) (f + 1)).lv l k=.ok x k') :
  C1 Tryz.prog 30 #[.pointer (some ⟨b,0,none⟩),.int .i64 (l:Int)] h b (rdL (.slice (tkA A C k) (n - k) (C - k)) en) (PrsR A C n en x k'):=by
 have hp:(if l=6 then (yW (T.map (·.t)) f).on k else ((yW (T.map (·.t)) f).lv (l + 1) k).then ((yW (T.map (·.t)) f).lp l))=.ok x k':=hp
 by_cases g6:l=6
 ·rw [if_pos g6] at hp
  have hO:=fun H q1=>(IH f (Nat.le_refl _)).on k b H x k' q1 hp
  refine fQ Tryz.func30 (c:=Tryz.f30.body.getD .skip) (N:=34) ?_
  intro hbx hbad Q hQ
  refine go1 12 [.own] [] ?_
  intro b1
  refine wQ (t:=(l:Int) == 6) (beq_iff_eq.2 (by omega)) ?_
  refine go0 3 [] [] ?_
  refine cQ 1 (fun H sH=>hO _ (hr.sees sH)) ?_; rintro _ _ W2 S3 ⟨u,rfl,rfl,hu⟩
  refine go0 5 [.b 0 0] [] ?_
  refine hQ.toB [.agg #[Vi x.op,Vi x.k,Vi x.n,.string x.s,.string x.nm,.slice (sA u) (sN u) (sC u)]] [(.slice (tkA A C k') (n - k') (C - k') :: Vi en :: sX)] (fun H sH=>?_) (ix:=[0])
  exact ⟨_,rfl,u,rfl,rfl,(hu.sees sH)⟩
 ·rw [if_neg g6] at hp
  obtain ⟨y,k1,e1,e2⟩:=then_ok hp
  have hO:=fun H q1=>(IH f (Nat.le_refl _)).lv (l + 1) k b H y k1 q1 (by omega) (by omega) e1
  have hOp:=fun k H q=>op_any (A:=A) (C:=C) n hn en l k b H q
  have hTk:=fun x k H q hx=>take_any (A:=A) (C:=C) n hn en x k b H q hx
  refine fQ Tryz.func30 (c:=Tryz.f30.body.getD .skip) (N:=34) ?_
  intro hbx hbad Q hQ
  refine go1 12 [.own] [] ?_
  intro b1
  refine iQ (t:=(l:Int) == 6) (beq_eq_false_iff_ne.2 (by omega)) ?_
  refine go0 7 [] [(13,Vi (IntKind.i64.wrap ((l:Int) + 1)),Vi ((l + 1:Nat):Int))] ?_ (hc:=(And.intro (jJ (by omega) (by omega)) (trivial)))
  refine cQ 1 (fun H sH=>hO _ (hr.sees sH)) ?_; rintro _ _ W2 S3 ⟨u,rfl,rfl,hu⟩
  refine go1 5 [.own,.b 0 0] [] ?_
  intro bq
  refine mQ [0,1,1,1] [.block 0] (fun (g:Nat) X=>∃ (W4:Vw) (z:Ex) (kz:Nat) (uz:Value),X W4 [(0,Vp b),(1,Vi (l:Int)),(4,Vp b1),(5,Vp bq)] [.box bq [Vi z.op,Vi z.k,Vi z.n,.string z.s,.string z.nm,.slice (sA uz) (sN uz) (sC uz)],.box b1 [Vi 0,Vi 0,Vi 0,Ve,Ve,Vz],.box b (.slice (tkA A C kz) (n - kz) (C - kz) :: Vi en :: sX)] []∧Sees W2 W4∧(g≤f)∧((yW (T.map (·.t)) g).lp l z kz=.ok x k')∧(IsArgs W4 z (.slice (sA uz) (sN uz) (sC uz)))) (fun g=>g) (f) (fun X q=>⟨W2,y,k1,u,q _ _ _ _ ⟨rfl,by kernel_rfl⟩,Sees.refl _,Nat.le_refl _,e2,hu⟩) ?_
  rintro g a w ⟨W4,z,kz,uz,hJ,S5,hg,hz,hu2⟩; refine pQ hJ ?_; clear hJ a w
  refine go0 5 [] [] ?_
  obtain ⟨g',rfl⟩:∃ g',g=g' + 1:=by
   cases g with
   | zero=>cases hz
   | succ g'=>exact ⟨g',rfl⟩
  have hz:(if opkT (T.map (·.t)) l kz=0 then PR.ok z kz else ((yW (T.map (·.t)) g').lv (l + 1) (kz + 1)).then fun y k'=>if l=3 then .ok (opE (opkT (T.map (·.t)) l kz) [z,y]) k' else (yW (T.map (·.t)) g').lp l (opE (opkT (T.map (·.t)) l kz) [z,y]) k')=.ok x k':=hz
  have hO2:=hOp kz
  have hob:=opkT_tok (T:=T) (l:=l) (k:=kz)
  generalize opkT (T.map (·.t)) l kz=op at *
  refine cQ 2 (fun H sH=>hO2 _ (hr.sees (S3.trans (S5.trans sH)))) ?_; rintro _ _ W6 S7 ⟨rfl,rfl⟩
  refine go0 10 [] [] ?_
  by_cases g0:op=0
  ·rw [if_pos g0] at hz
   injection hz with hz1 hz2
   refine wQ (t:=op == 0) (beq_iff_eq.2 g0) ?_
   refine go0 9 [.b 0 0,.b 1 0] [] ?_
   refine lQ ?_
   refine go0 1 [] [] ?_
   refine hQ.toB [.agg #[Vi z.op,Vi z.k,Vi z.n,.string z.s,.string z.nm,.slice (sA uz) (sN uz) (sC uz)]] [(.slice (tkA A C kz) (n - kz) (C - kz) :: Vi en :: sX)] (fun H sH=>?_) (ix:=[1])
   exact ⟨_,rfl,uz,by rw [hz1]; rfl,by rw [hz2],by rw [← hz1]; exact (hu2.sees (S7.trans sH))⟩
  ·skip
   rw [if_neg g0] at hz
   obtain ⟨y2,k2,e3,e4⟩:=then_ok hz
   obtain ⟨t,ht⟩:=hob g0
   have hO3:=fun H q1=>(IH g' (by omega)).lv (l + 1) (kz + 1) b H y2 k2 q1 (by omega) (by omega) e3
   refine iQ (t:=op == 0) (beq_eq_false_iff_ne.2 g0) ?_
   refine go0 5 [] [] ?_
   refine cQ 2 (fun H sH=>hTk t kz _ (hr.sees (S3.trans (S5.trans (S7.trans sH)))) ht) ?_; rintro _ _ W8 S9 ⟨rfl,rfl⟩
   refine go0 3 [] [] ?_
   refine tQ 9 0 [.pu,.ld 0 0,.pu,.pu,.v (fun gh=>Vi ((l + 1:Nat):Int)),.ef (fun gh=>.agg #[Vi y2.op,Vi y2.k,Vi y2.n,.string y2.s,.string y2.nm,.slice (sA (gh 5)) (sN (gh 5)) (sC (gh 5))]) 2 (fun gh=>.box b (.slice (tkA A C k2) (n - k2) (C - k2) :: Vi en :: sX)) (fun gh hh=>IsArgs hh y2 (.slice (sA (gh 5)) (sN (gh 5)) (sC (gh 5)))),.f (fun gh=>.slice (some ⟨(sJ (gh 6)),0,none⟩) 2 2) (fun gh hh=>Cells hh (sJ (gh 6)) 0 [Vi z.op,Vi z.k,Vi z.n,.string z.s,.string z.nm,.slice (sA uz) (sN uz) (sC uz),Vi y2.op,Vi y2.k,Vi y2.n,.string y2.s,.string y2.nm,.slice (sA (gh 5)) (sN (gh 5)) (sC (gh 5))]),.pu,.st 0 0] [(5,false),(6,true)] (And.intro (fun _ _ _ s c=>c.sees s) (And.intro (fun _ _ _ s c=>c.sees s) (trivial))) ?_ ?_
   ·intro R hT hA hmono
    refine And.intro (t_eq hT hA (fun gh=>Vi ((l + 1:Nat):Int)) (fun gh=>Vi (IntKind.i64.wrap ((l:Int) + 1))) (fun gh=>jJ (by omega) (by omega))) ?_
    refine And.intro (r_call1 hT hA hmono ⟨fun _ _=>by kernel_rfl,fun _ _=>by kernel_rfl,fun _ _=>by kernel_rfl⟩ 28 (fun u=>.agg #[Vi y2.op,Vi y2.k,Vi y2.n,.string y2.s,.string y2.nm,.slice (sA u) (sN u) (sC u)]) [2,4] 5 (by kernel_rfl) (fun _=>by kernel_rfl) 2 (GN R 2) (by kernel_rfl) (by kernel_rfl) (by kernel_rfl) b (fun gh=>(.slice (tkA A C (kz + 1)) (n - (kz + 1)) (C - (kz + 1)) :: Vi en :: sX)) (fun gh=>(.slice (tkA A C k2) (n - k2) (C - k2) :: Vi en :: sX)) (fun _=>by kernel_rfl) (fun _=>by kernel_rfl) 30 (fun gh=>#[Vp b,Vi ((l + 1:Nat):Int)]) (fun _ _=>by kernel_rfl) (fun gh H sH fH lent=>C1.facts (R:=R) (x:=gh) (N':=fun gh=>(.slice (tkA A C k2) (n - k2) (C - k2) :: Vi en :: sX)) (i:=5) (n:=0) (F:=(fun u=>.agg #[Vi y2.op,Vi y2.k,Vi y2.n,.string y2.s,.string y2.nm,.slice (sA u) (sN u) (sC u)])) (N:=fun u=>(.slice (tkA A C k2) (n - k2) (C - k2) :: Vi en :: sX)) (G:=fun u hh=>IsArgs hh y2 (.slice (sA u) (sN u) (sC u))) (f:=fun gh hh=>IsArgs hh y2 (.slice (sA (gh 5)) (sN (gh 5)) (sC (gh 5)))) (hO3 _ (hr.sees (S3.trans (S5.trans (S7.trans (S9.trans sH)))))) (by kernel_rfl) (by kernel_rfl) (fun _=>by kernel_rfl) (fun _ _ r=>r))) ?_
    refine And.intro (r_fact hT hA hmono ⟨fun _ _=>by kernel_rfl,fun _ _=>by kernel_rfl,fun _ _=>by kernel_rfl⟩ 29 (fun g=>Vs g 2 2) [1,5] 6 (by kernel_rfl) (by kernel_rfl) (fun _=>by kernel_rfl) (fun gh=>[Vi z.op,Vi z.k,Vi z.n,.string z.s,.string z.nm,.slice (sA uz) (sN uz) (sC uz),Vi y2.op,Vi y2.k,Vi y2.n,.string y2.s,.string y2.nm,.slice (sA (gh 5)) (sN (gh 5)) (sC (gh 5))]) 27 (fun _ _=>by kernel_rfl) (fun gh zb zH zc zj zq zhq zhe=>own_fact (i:=6) (k:=1) (f:=fun gh hh=>Cells hh (sJ (gh 6)) 0 [Vi z.op,Vi z.k,Vi z.n,.string z.s,.string z.nm,.slice (sA uz) (sN uz) (sC uz),Vi y2.op,Vi y2.k,Vi y2.n,.string y2.s,.string y2.nm,.slice (sA (gh 5)) (sN (gh 5)) (sC (gh 5))]) (by kernel_rfl) (by kernel_rfl) zc zj zq zhq zhe)) ?_
    trivial
   rintro u28 b11 W12 S13 ⟨f28,f10,-⟩
   replace f28:IsArgs W12 y2 (.slice (sA u28) (sN u28) (sC u28)):=f28
   replace f10:Cells W12 b11 0 [Vi z.op,Vi z.k,Vi z.n,.string z.s,.string z.nm,.slice (sA uz) (sN uz) (sC uz),Vi y2.op,Vi y2.k,Vi y2.n,.string y2.s,.string y2.nm,.slice (sA u28) (sN u28) (sC u28)]:=f10
   refine gQ f10 ?_
   refine go0 7 [] [] ?_
   by_cases g3:l=3
   ·rw [if_pos g3] at e4
    injection e4 with hz1 hz2
    refine wQ (t:=(l:Int) == 3) (beq_iff_eq.2 (by omega)) ?_
    refine go0 8 [.b 0 0,.b 1 0] [] ?_
    refine lQ ?_
    refine go0 1 [] [] ?_
    refine hQ.toB [.agg #[Vi op,Vi 0,Vi 0,Ve,Ve,Vs b11 2 2]] [(.slice (tkA A C k2) (n - k2) (C - k2) :: Vi en :: sX)] (fun H sH=>?_) (ix:=[1])
    exact ⟨_,rfl,Vs b11 2 2,by rw [← hz1]; rfl,by rw [hz2],by rw [← hz1]; exact args_two (hu2.sees (S7.trans (S9.trans (S13.trans sH)))) (f28.sees sH) (f10.sees sH)⟩
   ·skip
    rw [if_neg g3] at e4
    refine iQ (t:=(l:Int) == 3) (beq_eq_false_iff_ne.2 (by omega)) ?_
    refine go0 2 [] [] ?_
    exact vQ (g') (fun X q=>⟨W12,opE op [z,y2],k2,Vs b11 2 2,q _ _ _ _ ⟨rfl,by kernel_rfl⟩,(S5.trans (S7.trans (S9.trans S13))),by omega,e4,args_two (hu2.sees (S7.trans (S9.trans S13))) f28 f10⟩) (by omega)
set_option maxHeartbeats 1000000 in
theorem one_step (n:Nat) (hn:n=T.length) (en:Int) (f:Nat) (IH:PC A C n en T f) (k b:Nat) (h:Vw) (x:Ex) (k':Nat) (hr:RS h 6 (.slice A n C) (kY T)) (hp:(yW (T.map (·.t)) (f + 1)).on k=.ok x k') :
  C1 Tryz.prog 60 #[.pointer (some ⟨b,0,none⟩)] h b (rdL (.slice (tkA A C k) (n - k) (C - k)) en) (PrsR A C n en x k'):=by
 have hp:(if isK (T.map (·.t)) k [45] then ((yW (T.map (·.t)) f).on (k + 1)).then fun x k'=>PR.ok (opE 3 [x]) k' else if isK (T.map (·.t)) k [110,111,116] then ((yW (T.map (·.t)) f).on (k + 1)).then fun x k'=>.ok (opE 4 [x]) k' else (yW (T.map (·.t)) f).wh k)=.ok x k':=hp
 have hI:=fun s H q=>is_any (A:=A) (C:=C) n hn en s k b H q
 have hI1:=fun H q=>hI ⟨#[45]⟩ H q
 have hI2:=fun H q=>hI ⟨#[110,111,116]⟩ H q
 have hT:=fun t H q ht=>take_any (A:=A) (C:=C) n hn en t k b H q ht
 have hm1:=fun q=>isK_some (T:=T) (k:=k) (s:=[45]) q
 have hm2:=fun q=>isK_some (T:=T) (k:=k) (s:=[110,111,116]) q
 change ∀ H,_→C1 Tryz.prog 91 _ H b _ (fun v cs _=>v=.bool (isK (T.map (·.t)) k [45])∧_) at hI1
 change ∀ H,_→C1 Tryz.prog 91 _ H b _ (fun v cs _=>v=.bool (isK (T.map (·.t)) k [110,111,116])∧_) at hI2
 generalize isK (T.map (·.t)) k [45]=i1 at *
 generalize isK (T.map (·.t)) k [110,111,116]=i2 at *
 refine fQ Tryz.func60 (c:=Tryz.f60.body.getD .skip) (N:=28) ?_
 intro hbx hbad Q hQ
 refine go1 13 [.own] [] ?_
 intro b1
 refine mQ [0,1,0,1] [.block 0,.seq [1,1]] (fun (j:Nat) X=>∃ (W2:Vw) ,X W2 [(0,Vp b),(2,Vp b1),(5,.agg #[Vi 3,Vi 4]),(6,Vi (j:Int))] [.box b1 [Vi 0,Vi 0,Vi 0,Ve,Ve,Vz],.box b (.slice (tkA A C k) (n - k) (C - k) :: Vi en :: sX)] []∧Sees h W2∧(j=0∨(j=1∧i1=false)∨(j=2∧i1=false∧i2=false))) (fun j=>2 - j) (0) (fun X q=>⟨h,q _ _ _ _ ⟨rfl,by kernel_rfl⟩,Sees.refl _,.inl rfl⟩) ?_
 rintro j a w ⟨W2,hJ,S3,hj⟩; refine pQ hJ ?_; clear hJ a w
 refine go0 6 [] [] ?_
 rcases hj with j0 | ⟨j0,j1⟩ | ⟨j0,j1,j2⟩
 ·skip
  refine wQ (t:=decide ((j:Int) < 2)) (decide_eq_true (by omega)) ?_
  refine go0 6 [] [] ?_
  refine qQ (Vi 3) (fun w=>by subst j0; kernel_rfl) ?_
  refine go0 13 [.b 1 11] [] ?_
  refine cQ 1 (fun H sH=>hI1 _ (hr.sees (S3.trans sH))) ?_; rintro _ _ W4 S5 ⟨rfl,rfl⟩
  refine go0 2 [] [] ?_
  by_cases q0:i1=true
  ·rw [if_pos q0] at hp
   obtain ⟨y,k2,e1,e2⟩:=then_ok hp
   injection e2 with hz1 hz2
   obtain ⟨t,ht,-⟩:=hm1 q0
   have hO:=fun H p1=>IH.on (k + 1) b H y k2 p1 e1
   refine wQ (t:=i1) (q0) ?_
   refine go0 3 [] [] ?_
   refine cQ 1 (fun H sH=>hT t _ (hr.sees (S3.trans (S5.trans sH))) ht) ?_; rintro _ _ W6 S7 ⟨rfl,rfl⟩
   refine go0 6 [] [] ?_
   refine cQ 1 (fun H sH=>hO _ (hr.sees (S3.trans (S5.trans (S7.trans sH))))) ?_; rintro _ _ W8 S9 ⟨u,rfl,rfl,hu⟩
   refine aV 8 [.fix,.b 0 0] [] ?_
   intro b10 W11 S12
   refine lQ ?_
   refine go0 2 [] [] ?_
   refine hQ.toJ [.agg #[Vi 3,Vi 0,Vi 0,Ve,Ve,Vs b10 1 1]] [(.slice (tkA A C k2) (n - k2) (C - k2) :: Vi en :: sX)] (fun a w hJ=>?_) (ix:=[0])
   exact ⟨_,rfl,Vs b10 1 1,by rw [← hz1]; rfl,by rw [hz2],by rw [← hz1]; exact args_one (hu.sees (S12.trans hJ.j.out)) (show Cells ⟨w,h.bad⟩ b10 0 (exRow y (.slice (sA u) (sN u) (sC u))) from (hJ.f (_,_,_) (List.mem_of_getElem? (i:=0) (by kernel_rfl))).sees hJ.j.out)⟩
  ·skip
   have q0:=Bool.eq_false_iff.2 q0
   refine iQ (t:=i1) (q0) ?_
   refine go0 7 [] [(25,Vi (IntKind.i64.wrap ((j:Int) + 1)),Vi ((j:Int) + 1))] ?_ (hc:=(And.intro (jJ (by omega) (by omega)) (trivial)))
   exact vQ (j + 1) (fun X q=>⟨W4,q _ _ _ _ ⟨rfl,by kernel_rfl⟩,(S3.trans S5),.inr (.inl ⟨by omega,q0⟩)⟩) (by omega)
 ·skip
  refine wQ (t:=decide ((j:Int) < 2)) (decide_eq_true (by omega)) ?_
  refine go0 6 [] [] ?_
  refine qQ (Vi 4) (fun w=>by subst j0; kernel_rfl) ?_
  refine go0 13 [.b 1 14] [] ?_
  refine cQ 1 (fun H sH=>hI2 _ (hr.sees (S3.trans sH))) ?_; rintro _ _ W13 S14 ⟨rfl,rfl⟩
  refine go0 2 [] [] ?_
  by_cases q1:i2=true
  ·rw [j1,if_neg Bool.false_ne_true,if_pos q1] at hp
   obtain ⟨y,k2,e1,e2⟩:=then_ok hp
   injection e2 with hz1 hz2
   obtain ⟨t,ht,-⟩:=hm2 q1
   have hO:=fun H p1=>IH.on (k + 1) b H y k2 p1 e1
   refine wQ (t:=i2) (q1) ?_
   refine go0 3 [] [] ?_
   refine cQ 1 (fun H sH=>hT t _ (hr.sees (S3.trans (S14.trans sH))) ht) ?_; rintro _ _ W15 S16 ⟨rfl,rfl⟩
   refine go0 6 [] [] ?_
   refine cQ 1 (fun H sH=>hO _ (hr.sees (S3.trans (S14.trans (S16.trans sH))))) ?_; rintro _ _ W17 S18 ⟨u,rfl,rfl,hu⟩
   refine aV 8 [.fix,.b 0 0] [] ?_
   intro b19 W20 S21
   refine lQ ?_
   refine go0 2 [] [] ?_
   refine hQ.toJ [.agg #[Vi 4,Vi 0,Vi 0,Ve,Ve,Vs b19 1 1]] [(.slice (tkA A C k2) (n - k2) (C - k2) :: Vi en :: sX)] (fun a w hJ=>?_) (ix:=[0])
   exact ⟨_,rfl,Vs b19 1 1,by rw [← hz1]; rfl,by rw [hz2],by rw [← hz1]; exact args_one (hu.sees (S21.trans hJ.j.out)) (show Cells ⟨w,h.bad⟩ b19 0 (exRow y (.slice (sA u) (sN u) (sC u))) from (hJ.f (_,_,_) (List.mem_of_getElem? (i:=0) (by kernel_rfl))).sees hJ.j.out)⟩
  ·skip
   have q1:=Bool.eq_false_iff.2 q1
   refine iQ (t:=i2) (q1) ?_
   refine go0 7 [] [(25,Vi (IntKind.i64.wrap ((j:Int) + 1)),Vi ((j:Int) + 1))] ?_ (hc:=(And.intro (jJ (by omega) (by omega)) (trivial)))
   exact vQ (j + 1) (fun X q=>⟨W13,q _ _ _ _ ⟨rfl,by kernel_rfl⟩,(S3.trans S14),.inr (.inr ⟨by omega,j1,q1⟩)⟩) (by omega)
 ·skip
  rw [j1,j2,if_neg Bool.false_ne_true,if_neg Bool.false_ne_true] at hp
  have hW:=fun H p1=>IH.wh k b H x k' p1 hp
  refine iQ (t:=decide ((j:Int) < 2)) (decide_eq_false (by omega)) ?_
  refine go0 2 [] [] ?_
  refine lQ ?_
  refine go0 5 [] [] ?_
  refine cQ 1 (fun H sH=>hW _ (hr.sees (S3.trans sH))) ?_; rintro _ _ W22 S23 ⟨u,rfl,rfl,hu⟩
  refine go0 4 [.b 0 0] [] ?_
  refine hQ.toB [.agg #[Vi x.op,Vi x.k,Vi x.n,.string x.s,.string x.nm,.slice (sA u) (sN u) (sC u)]] [(.slice (tkA A C k') (n - k') (C - k') :: Vi en :: sX)] (fun H sH=>?_) (ix:=[0])
  exact ⟨_,rfl,u,rfl,rfl,(hu.sees sH)⟩
set_option maxHeartbeats 1000000 in
theorem args_step (n:Nat) (hn:n=T.length) (en:Int) (f:Nat) (IH:∀ g,g < f→PC A C n en T g) (m k b:Nat) (h:Vw) (l:List Ex) (k':Nat) (hr:RS h 6 (.slice A n C) (kY T)) (hm:m≤3) (hp:(yW (T.map (·.t)) f).ag m 0 [] k=.ok l k') :
  C1 Tryz.prog 123 #[.pointer (some ⟨b,0,none⟩),.int .i64 (m:Int)] h b (rdL (.slice (tkA A C k) (n - k) (C - k)) en) (PrsA A C n en l k'):=by
 have hW:=fun s k H q e=>want_any (A:=A) (C:=C) n hn en s k b H q e
 refine fQ Tryz.func123 (c:=Tryz.f123.body.getD .skip) (N:=27) ?_
 intro hbx hbad Q hQ
 refine oQ 27 6 ?_
 refine go0 18 [] [] ?_
 refine mQ [0,1,0,1,1] [.block 0,.seq [1,1,1]] (fun (g:Nat) X=>∃ (W1:Vw) (i:Nat) (acc:List Ex) (us:List Value) (v:Value) (kz:Nat),X W1 [(0,Vp b),(7,Vi (m:Int)),(8,Vi (i:Int)),(5,v)] [.row v 27 6 (mK acc us),.box b (.slice (tkA A C kz) (n - kz) (C - kz) :: Vi en :: sX)] []∧Sees h W1∧(g≤f)∧(i≤m)∧(acc.length=i)∧((yW (T.map (·.t)) g).ag m i acc kz=.ok l k')∧(AllArgs W1 acc us)) (fun g=>g) (f) (fun X q=>⟨h,0,[],[],(Vz),k,q _ _ _ _ ⟨rfl,by kernel_rfl⟩,Sees.refl _,Nat.le_refl _,Nat.zero_le _,rfl,hp,(by unfold AllArgs; rfl)⟩) ?_
 rintro g a w ⟨W1,i,acc,us,v,kz,hJ,S2,hg,hi,hai,hz,hvs⟩; refine pQ hJ ?_; clear hJ a w
 refine go0 6 [] [] ?_
 obtain ⟨g',rfl⟩:∃ g',g=g' + 1:=by
  cases g with
  | zero=>cases hz
  | succ g'=>exact ⟨g',rfl⟩
 have hz:(if i=m then (if isK (T.map (·.t)) kz [41] then PR.ok acc (kz + 1) else .bad kz) else if isK (T.map (·.t)) kz (if i=0 then [40] else [44]) then ((yW (T.map (·.t)) g').lv 1 (kz + 1)).then fun x k'=>(yW (T.map (·.t)) g').ag m (i + 1) (acc++[x]) k' else .bad kz)=.ok l k':=hz
 have hvl:=hvs.len
 rcases (by omega:i < m∨i=m) with hlt | hke
 ·rw [if_neg (by omega:¬ i=m)] at hz
  by_cases hs:isK (T.map (·.t)) kz (if i=0 then [40] else [44])=true
  ·rw [if_pos hs] at hz
   obtain ⟨x,k2,e1,e2⟩:=then_ok hz
   have hO:=fun H p1=>(IH g' (by omega)).lv 1 (kz + 1) b H x k2 p1 (by omega) (by omega) e1
   refine wQ (t:=decide ((i:Int) < (m:Int))) (decide_eq_true (by omega)) ?_
   refine aV 16 [.fix] [] ?_
   intro b3 W4 S5
   by_cases h0:i=0
   ·rw [if_pos h0] at hs
    refine uQ 14 (v:=Vi (if (1:Int) < (i:Int) then (1:Int) else (i:Int))) (v':=Vi 0) (congrArg (Value.int .i64) (by split <;> omega)) ?_
    refine go0 2 [.pu,.f 0 0] [] ?_
    refine cQ 1 (fun H sH=>hW ⟨#[40]⟩ kz _ (hr.sees (S2.trans (S5.trans sH))) hs) ?_; rintro _ _ W6 S7 ⟨rfl,rfl⟩
    refine go0 5 [] [] ?_
    refine cQ 1 (fun H sH=>hO _ (hr.sees (S2.trans (S5.trans (S7.trans sH))))) ?_; rintro _ _ W8 S9 ⟨u,rfl,rfl,hu⟩
    refine aV 1 [.fix] [] ?_
    intro b10 W11 S12
    refine goa0 9 [.ap 0 0 (mK acc us) [[Vi x.op,Vi x.k,Vi x.n,.string x.s,.string x.nm,.slice (sA u) (sN u) (sC u)]]] [(23,Vi (IntKind.i64.wrap ((i:Int) + 1)),Vi ((i:Int) + 1))] ?_ (ho:=(And.intro (by have hxl:=nK hvl; simp only [List.length_cons,List.length_nil]; omega) (trivial))) (hc:=(And.intro (jJ (by omega) (by omega)) (trivial)))
    intro v22 W13 S14
    refine kQ [(0,Vp b),(7,Vi (m:Int)),(5,.slice (sA v22) (sN v22) (sC v22)),(8,Vi ((i:Int) + 1))] [.row (.slice (sA v22) (sN v22) (sC v22)) 27 6 ((mK acc us)++[[Vi x.op,Vi x.k,Vi x.n,.string x.s,.string x.nm,.slice (sA u) (sN u) (sC u)]]),.box b (.slice (tkA A C k2) (n - k2) (C - k2) :: Vi en :: sX)] [] ?_
    exact vQ (g') (fun X q=>⟨W13,i + 1,acc++[x],us++[.slice (sA u) (sN u) (sC u)],.slice (sA v22) (sN v22) (sC v22),k2,q _ _ _ _ (qX (by rw [exRows_snoc hvl])),(S2.trans (S5.trans (S7.trans (S9.trans (S12.trans S14))))),by omega,by omega,by simp [hai],e2,AllArgs.snoc (hu.sees (S12.trans S14)) (hvs.sees (S5.trans (S7.trans (S9.trans (S12.trans S14)))))⟩) (by omega)
   ·skip
    rw [if_neg h0] at hs
    refine uQ 14 (v:=Vi (if (1:Int) < (i:Int) then (1:Int) else (i:Int))) (v':=Vi 1) (congrArg (Value.int .i64) (by split <;> omega)) ?_
    refine go0 2 [.pu,.f 0 1] [] ?_
    refine cQ 1 (fun H sH=>hW ⟨#[44]⟩ kz _ (hr.sees (S2.trans (S5.trans sH))) hs) ?_; rintro _ _ W15 S16 ⟨rfl,rfl⟩
    refine go0 5 [] [] ?_
    refine cQ 1 (fun H sH=>hO _ (hr.sees (S2.trans (S5.trans (S16.trans sH))))) ?_; rintro _ _ W17 S18 ⟨u,rfl,rfl,hu⟩
    refine aV 1 [.fix] [] ?_
    intro b19 W20 S21
    refine goa0 9 [.ap 0 0 (mK acc us) [[Vi x.op,Vi x.k,Vi x.n,.string x.s,.string x.nm,.slice (sA u) (sN u) (sC u)]]] [(23,Vi (IntKind.i64.wrap ((i:Int) + 1)),Vi ((i:Int) + 1))] ?_ (ho:=(And.intro (by have hxl:=nK hvl; simp only [List.length_cons,List.length_nil]; omega) (trivial))) (hc:=(And.intro (jJ (by omega) (by omega)) (trivial)))
    intro v22 W22 S23
    refine kQ [(0,Vp b),(7,Vi (m:Int)),(5,.slice (sA v22) (sN v22) (sC v22)),(8,Vi ((i:Int) + 1))] [.row (.slice (sA v22) (sN v22) (sC v22)) 27 6 ((mK acc us)++[[Vi x.op,Vi x.k,Vi x.n,.string x.s,.string x.nm,.slice (sA u) (sN u) (sC u)]]),.box b (.slice (tkA A C k2) (n - k2) (C - k2) :: Vi en :: sX)] [] ?_
    exact vQ (g') (fun X q=>⟨W22,i + 1,acc++[x],us++[.slice (sA u) (sN u) (sC u)],.slice (sA v22) (sN v22) (sC v22),k2,q _ _ _ _ (qX (by rw [exRows_snoc hvl])),(S2.trans (S5.trans (S16.trans (S18.trans (S21.trans S23))))),by omega,by omega,by simp [hai],e2,AllArgs.snoc (hu.sees (S21.trans S23)) (hvs.sees (S5.trans (S16.trans (S18.trans (S21.trans S23)))))⟩) (by omega)
  ·rw [if_neg hs] at hz
   cases hz
 ·skip
  rw [if_pos hke] at hz
  by_cases hs:isK (T.map (·.t)) kz [41]=true
  ·rw [if_pos hs] at hz
   injection hz with hz1 hz2
   refine jQ 0 (v:=v) (e:=27) (kk:=6) (l:=mK acc us) ?_; intro A2 c2 hE_v hc_v hm_v
   rw [hE_v]
   refine iQ (t:=decide ((i:Int) < (m:Int))) (decide_eq_false (by omega)) ?_
   refine go0 2 [] [] ?_
   refine lQ ?_
   refine go0 5 [] [] ?_
   refine cQ 1 (fun H sH=>hW ⟨#[41]⟩ kz _ (hr.sees (S2.trans sH)) hs) ?_; rintro _ _ W24 S25 ⟨rfl,rfl⟩
   refine go0 9 [] [] ?_
   refine kQ [(4,.slice A2 ((mK acc us).length) c2)] [.row (.slice A2 ((mK acc us).length) c2) 27 6 (mK acc us),.box b (.slice (tkA A C (kz + 1)) (n - (kz + 1)) (C - (kz + 1)) :: Vi en :: sX)] [] ?_
   refine hQ.toJ [.slice A2 ((mK acc us).length) c2] [(.slice (tkA A C (kz + 1)) (n - (kz + 1)) (C - (kz + 1)) :: Vi en :: sX)] (fun a w hJ=>?_)
   have fr:=hJ.j.rowOut1 (v:=.slice A2 ((mK acc us).length) c2) (e:=27) (k:=6) (l:=mK acc us) (g:=b) (cs:=(.slice (tkA A C (kz + 1)) (n - (kz + 1)) (C - (kz + 1)) :: Vi en :: sX)) 0 1 (by kernel_rfl) (by kernel_rfl) (by kernel_rfl) rfl
   exact ⟨_,rfl,.slice A2 (mK acc us).length c2,us,rfl,by rw [hz2],by rw [← hz1]; exact fr,by rw [← hz1]; exact (hvs.sees (S25.trans hJ.j.out))⟩
  ·rw [if_neg hs] at hz
   cases hz
set_option maxHeartbeats 2000000 in
theorem whole_step (n:Nat) (hn:n=T.length) (en:Int) (f:Nat) (IH:PC A C n en T f) (k b:Nat) (h:Vw) (x:Ex) (k':Nat) (hr:RS h 6 (.slice A n C) (kY T)) (hp:(yW (T.map (·.t)) (f + 1)).wh k=.ok x k') :
  C1 Tryz.prog 92 #[.pointer (some ⟨b,0,none⟩)] h b (rdL (.slice (tkA A C k) (n - k) (C - k)) en) (PrsR A C n en x k'):=by
 have hp:(if isK (T.map (·.t)) k [40] then ((yW (T.map (·.t)) f).lv 1 (k + 1)).then fun x k'=>if isK (T.map (·.t)) k' [41] then PR.ok x (k' + 1) else .bad k'
  else if isK (T.map (·.t)) k [116,114,117,101] then .ok (.mk 1 2 1 ⟨#[]⟩ ⟨#[]⟩ []) (k + 1) else if isK (T.map (·.t)) k [102,97,108,115,101] then .ok (.mk 1 2 0 ⟨#[]⟩ ⟨#[]⟩ []) (k + 1)
  else if isK (T.map (·.t)) k [105,102] then ((yW (T.map (·.t)) f).ag 3 0 [] (k + 1)).then fun l k'=>.ok (opE 17 l) k' else if isK (T.map (·.t)) k [108,101,110] then ((yW (T.map (·.t)) f).ag 1 0 [] (k + 1)).then fun l k'=>.ok (opE 18 l) k'
  else match (T.map (·.t))[k]? with
   | some x=>if x.kd=2∧isKey x.s=false then .ok (refE ⟨x.s.toArray⟩) (k + 1) else if x.kd=1∨x.kd=3 then .ok (conV x) (k + 1) else .bad k
   | none=>.bad k)=.ok x k':=hp
 have hI:=fun (s:ByteArray) v (e:isK (T.map (·.t)) k s.data.toList=v) H q=>by
  have:=is_any (A:=A) (C:=C) n hn en s k b H q
  rw [e] at this
  exact this
 have hW:=fun s k H q e=>want_any (A:=A) (C:=C) n hn en s k b H q e
 have hT:=fun t H q ht=>take_any (A:=A) (C:=C) n hn en t k b H q ht
 have hm:=fun s q=>isK_some (T:=T) (k:=k) (s:=s) q
 have htl:=fun q=>tk_at hr k q
 have hkn:n - k=0∨k < T.length:=by omega
 generalize hnk:n - k=nk at *
 generalize C - k=ck at *
 generalize tkA A C k=Ak at *
 refine fQ Tryz.func92 (c:=Tryz.f92.body.getD .skip) (N:=117) ?_
 intro hbx hbad Q hQ
 refine go1 10 [.own] [] ?_
 intro b1
 by_cases q1:isK (T.map (·.t)) k [40]=true
 ·rw [if_pos q1] at hp
  obtain ⟨y,k2,e1,e2⟩:=then_ok hp
  obtain ⟨t,ht,-⟩:=hm _ q1
  by_cases q2:isK (T.map (·.t)) k2 [41]=true
  ·rw [if_pos q2] at e2
   injection e2 with hz1 hz2
   have hO:=fun H p1=>IH.lv 1 (k + 1) b H y k2 p1 (by omega) (by omega) e1
   refine cQ 1 (fun H sH=>hI ⟨#[40]⟩ true q1 _ (hr.sees sH)) ?_; rintro _ _ W2 S3 ⟨rfl,rfl⟩
   refine go0 7 [] [] ?_
   refine cQ 1 (fun H sH=>hT t _ (hr.sees (S3.trans sH)) ht) ?_; rintro _ _ W4 S5 ⟨rfl,rfl⟩
   refine go0 5 [] [] ?_
   refine cQ 1 (fun H sH=>hO _ (hr.sees (S3.trans (S5.trans sH)))) ?_; rintro _ _ W6 S7 ⟨u,rfl,rfl,hu⟩
   refine go1 7 [.own,.b 0 0] [] ?_
   intro b8
   refine cQ 2 (fun H sH=>hW ⟨#[41]⟩ k2 _ (hr.sees (S3.trans (S5.trans (S7.trans sH)))) q2) ?_; rintro _ _ W9 S10 ⟨rfl,rfl⟩
   refine go0 11 [.b 0 0,.b 1 0] [] ?_
   refine hQ.toB [.agg #[Vi y.op,Vi y.k,Vi y.n,.string y.s,.string y.nm,.slice (sA u) (sN u) (sC u)]] [(.slice (tkA A C (k2 + 1)) (n - (k2 + 1)) (C - (k2 + 1)) :: Vi en :: sX)] (fun H sH=>?_) (ix:=[1])
   exact ⟨_,rfl,u,by rw [hz1]; rfl,by rw [hz2],by rw [← hz1]; exact (hu.sees (S10.trans sH))⟩
  ·rw [if_neg q2] at e2
   cases e2
 ·skip
  rw [if_neg q1] at hp
  refine cQ 1 (fun H sH=>hI ⟨#[40]⟩ false (Bool.eq_false_iff.2 q1) _ (hr.sees sH)) ?_; rintro _ _ W11 S12 ⟨rfl,rfl⟩
  refine go0 8 [] [] ?_
  by_cases q2:isK (T.map (·.t)) k [116,114,117,101]=true
  ·rw [if_pos q2] at hp
   injection hp with hz1 hz2
   obtain ⟨t,ht,hts⟩:=hm _ q2
   have hT2:=fun H q=>hT t H q ht
   rw [hts] at hT2
   refine cQ 1 (fun H sH=>hI ⟨#[116,114,117,101]⟩ true q2 _ (hr.sees (S12.trans sH))) ?_; rintro _ _ W13 S14 ⟨rfl,rfl⟩
   refine go0 10 [] [] ?_
   refine cQ 1 (fun H sH=>hT2 _ (hr.sees (S12.trans (S14.trans sH)))) ?_; rintro _ _ W15 S16 ⟨rfl,rfl⟩
   refine go1 20 [.cl 122 #[.string ⟨#[116,114,117,101]⟩] (.tuple #[.agg #[Vi 2,Vi 1,Ve],Vi 0]),.own,.b 0 0,.b 0 0,.b 1 0] [] ?_ (ho:=(And.intro (fun H sH=>parse_true _) (trivial)))
   intro b17
   refine hQ.toB [.agg #[Vi 1,Vi 2,Vi 1,Ve,Ve,Vz]] [(.slice (tkA A C (k + 1)) (n - (k + 1)) (C - (k + 1)) :: Vi en :: sX)] (fun H sH=>?_) (ix:=[1])
   exact ⟨_,rfl,Vz,by rw [← hz1]; rfl,by rw [hz2],by rw [← hz1]; exact qJ _ _ rfl⟩
  ·skip
   rw [if_neg q2] at hp
   refine cQ 1 (fun H sH=>hI ⟨#[116,114,117,101]⟩ false (Bool.eq_false_iff.2 q2) _ (hr.sees (S12.trans sH))) ?_; rintro _ _ W18 S19 ⟨rfl,rfl⟩
   refine go0 6 [] [] ?_
   by_cases q3:isK (T.map (·.t)) k [102,97,108,115,101]=true
   ·rw [if_pos q3] at hp
    injection hp with hz1 hz2
    obtain ⟨t,ht,hts⟩:=hm _ q3
    have hT2:=fun H q=>hT t H q ht
    rw [hts] at hT2
    refine cQ 1 (fun H sH=>hI ⟨#[102,97,108,115,101]⟩ true q3 _ (hr.sees (S12.trans (S19.trans sH)))) ?_; rintro _ _ W20 S21 ⟨rfl,rfl⟩
    refine go0 7 [] [] ?_
    refine cQ 1 (fun H sH=>hT2 _ (hr.sees (S12.trans (S19.trans (S21.trans sH))))) ?_; rintro _ _ W22 S23 ⟨rfl,rfl⟩
    refine go1 20 [.cl 122 #[.string ⟨#[102,97,108,115,101]⟩] (.tuple #[.agg #[Vi 2,Vi 0,Ve],Vi 0]),.own,.b 0 0,.b 0 0,.b 1 0] [] ?_ (ho:=(And.intro (fun H sH=>parse_false _) (trivial)))
    intro b24
    refine hQ.toB [.agg #[Vi 1,Vi 2,Vi 0,Ve,Ve,Vz]] [(.slice (tkA A C (k + 1)) (n - (k + 1)) (C - (k + 1)) :: Vi en :: sX)] (fun H sH=>?_) (ix:=[1])
    exact ⟨_,rfl,Vz,by rw [← hz1]; rfl,by rw [hz2],by rw [← hz1]; exact qJ _ _ rfl⟩
   ·skip
    rw [if_neg q3] at hp
    refine cQ 1 (fun H sH=>hI ⟨#[102,97,108,115,101]⟩ false (Bool.eq_false_iff.2 q3) _ (hr.sees (S12.trans (S19.trans sH)))) ?_; rintro _ _ W25 S26 ⟨rfl,rfl⟩
    refine go0 8 [] [] ?_
    by_cases q4:isK (T.map (·.t)) k [105,102]=true
    ·rw [if_pos q4] at hp
     obtain ⟨l,k2,e1,e2⟩:=then_ok hp
     injection e2 with hz1 hz2
     obtain ⟨t,ht,hts⟩:=hm _ q4
     have hT2:=fun H q=>hT t H q ht
     rw [hts] at hT2
     have hO:=fun H p1=>IH.ag 3 (k + 1) b H l k2 p1 (by omega) e1
     refine cQ 1 (fun H sH=>hI ⟨#[105,102]⟩ true q4 _ (hr.sees (S12.trans (S19.trans (S26.trans sH))))) ?_; rintro _ _ W27 S28 ⟨rfl,rfl⟩
     refine go0 16 [] [] ?_
     refine cQ 1 (fun H sH=>hT2 _ (hr.sees (S12.trans (S19.trans (S26.trans (S28.trans sH)))))) ?_; rintro _ _ W29 S30 ⟨rfl,rfl⟩
     refine go0 18 [.b 1 55] [] ?_
     refine cQ 1 (fun H sH=>hO _ (hr.sees (S12.trans (S19.trans (S26.trans (S28.trans (S30.trans sH))))))) ?_; rintro _ _ W31 S32 ⟨u,vs,rfl,rfl,hu,hv⟩
     refine go0 7 [.b 0 0] [] ?_
     refine hQ.toB [.agg #[Vi 17,Vi 0,Vi 0,Ve,Ve,.slice (sA u) (sN u) (sC u)]] [(.slice (tkA A C k2) (n - k2) (C - k2) :: Vi en :: sX)] (fun H sH=>?_) (ix:=[0])
     exact ⟨_,rfl,u,by rw [← hz1]; rfl,by rw [hz2],by rw [← hz1]; exact IsArgs.mk (x:=opE 17 l) (hu.sees sH) (hv.sees sH)⟩
    ·skip
     rw [if_neg q4] at hp
     refine cQ 1 (fun H sH=>hI ⟨#[105,102]⟩ false (Bool.eq_false_iff.2 q4) _ (hr.sees (S12.trans (S19.trans (S26.trans sH))))) ?_; rintro _ _ W33 S34 ⟨rfl,rfl⟩
     refine go0 6 [] [] ?_
     by_cases q5:isK (T.map (·.t)) k [108,101,110]=true
     ·rw [if_pos q5] at hp
      obtain ⟨l,k2,e1,e2⟩:=then_ok hp
      injection e2 with hz1 hz2
      obtain ⟨t,ht,hts⟩:=hm _ q5
      have hT2:=fun H q=>hT t H q ht
      rw [hts] at hT2
      have hO:=fun H p1=>IH.ag 1 (k + 1) b H l k2 p1 (by omega) e1
      refine cQ 1 (fun H sH=>hI ⟨#[108,101,110]⟩ true q5 _ (hr.sees (S12.trans (S19.trans (S26.trans (S34.trans sH)))))) ?_; rintro _ _ W35 S36 ⟨rfl,rfl⟩
      refine go0 13 [] [] ?_
      refine cQ 1 (fun H sH=>hT2 _ (hr.sees (S12.trans (S19.trans (S26.trans (S34.trans (S36.trans sH))))))) ?_; rintro _ _ W37 S38 ⟨rfl,rfl⟩
      refine go0 20 [.b 1 58] [] ?_
      refine cQ 1 (fun H sH=>hO _ (hr.sees (S12.trans (S19.trans (S26.trans (S34.trans (S36.trans (S38.trans sH)))))))) ?_; rintro _ _ W39 S40 ⟨u,vs,rfl,rfl,hu,hv⟩
      refine go0 7 [.b 0 0] [] ?_
      refine hQ.toB [.agg #[Vi 18,Vi 0,Vi 0,Ve,Ve,.slice (sA u) (sN u) (sC u)]] [(.slice (tkA A C k2) (n - k2) (C - k2) :: Vi en :: sX)] (fun H sH=>?_) (ix:=[0])
      exact ⟨_,rfl,u,by rw [← hz1]; rfl,by rw [hz2],by rw [← hz1]; exact IsArgs.mk (x:=opE 18 l) (hu.sees sH) (hv.sees sH)⟩
     ·skip
      rw [if_neg q5] at hp
      refine cQ 1 (fun H sH=>hI ⟨#[108,101,110]⟩ false (Bool.eq_false_iff.2 q5) _ (hr.sees (S12.trans (S19.trans (S26.trans (S34.trans sH)))))) ?_; rintro _ _ W41 S42 ⟨rfl,rfl⟩
      refine go0 13 [.b 1 0] [] ?_
      rw [List.getElem?_map] at hp
      obtain ⟨t,ht⟩:∃ t,T[k]?=some t:=by
       cases hx:T[k]? with
       | none=>rw [hx] at hp; cases hp
       | some t=>exact ⟨t,rfl⟩
      have hkl:=(List.getElem?_eq_some_iff.1 ht).1
      rw [ht] at hp
      have hp:(if t.t.kd=2∧isKey t.t.s=false then PR.ok (refE ⟨t.t.s.toArray⟩) (k + 1) else if t.t.kd=1∨t.t.kd=3 then .ok (conV t.t) (k + 1) else .bad k)=.ok x k':=hp
      have hfr:=htl (by omega)
      have hrow:((kY T).drop k)[0]?=some (tcells t):=by rw [List.getElem?_drop]; simp [ht]
      have hKy:=fun H=>c_key t.t.s H
      refine uQ 58 (v:=.bool (decide ((nk:Int) > 0))) (v':=.bool true) (congrArg Value.bool (decide_eq_true (by omega))) ?_
      by_cases c2:t.t.kd=2
      ·skip
       by_cases c3:isKey t.t.s=false
       ·rw [if_pos ⟨c2,c3⟩] at hp
        injection hp with hz1 hz2
        refine go0 4 [.b 1 0] [] ?_
        obtain ⟨b43,o44,rfl,-,c45⟩:=RS.row hfr (hrow)
        refine gQ (c45.sees (S12.trans (S19.trans (S26.trans (S34.trans S42))))) ?_
        refine go0 10 [.ix b43 o44 nk ck 0,.f 0 0,.b 1 0] [(66,.bool (t.t.kd == 2),.bool true)] ?_ (ho:=(And.intro (by first | omega | (simp; omega)) (trivial))) (hc:=(And.intro (congrArg Value.bool (beq_iff_eq.2 c2)) (trivial)))
        have c46:=RS.cell hfr (hrow)
        refine gQ (c46.sees (S12.trans (S19.trans (S26.trans (S34.trans S42))))) ?_
        refine go0 9 [.ix b43 o44 nk ck 0,.f 0 2,.cl 95 #[.string ⟨t.t.s.toArray⟩] (.bool (isKey t.t.s))] [] ?_ (ho:=(And.intro (by first | omega | (simp; omega)) (And.intro (fun H sH=>hKy _) (trivial))))
        refine wQ (t := !(isKey t.t.s)) (by rw [c3]; rfl) ?_
        refine go0 3 [] [] ?_
        refine cQ 1 (fun H sH=>hT t _ (hr.sees (S12.trans (S19.trans (S26.trans (S34.trans (S42.trans sH)))))) ht) ?_; rintro _ _ W47 S48 ⟨rfl,rfl⟩
        refine go0 8 [.b 0 0] [] ?_
        refine hQ.toB [.agg #[Vi 2,Vi 0,Vi 0,Ve,.string ⟨t.t.s.toArray⟩,Vz]] [(.slice (tkA A C (k + 1)) (n - (k + 1)) (C - (k + 1)) :: Vi en :: sX)] (fun H sH=>?_) (ix:=[0])
        exact ⟨_,rfl,Vz,by rw [← hz1]; rfl,by rw [hz2],by rw [← hz1]; exact qJ _ _ rfl⟩
       ·rw [if_neg (fun q=>c3 q.2),if_neg (by omega)] at hp
        cases hp
      ·skip
       rw [if_neg (fun q=>c2 q.1)] at hp
       by_cases c13:t.t.kd=1∨t.t.kd=3
       ·rw [if_pos c13] at hp
        injection hp with hz1 hz2
        refine go0 4 [.b 1 0] [] ?_
        obtain ⟨b49,o50,rfl,-,c51⟩:=RS.row hfr (hrow)
        refine gQ (c51.sees (S12.trans (S19.trans (S26.trans (S34.trans S42))))) ?_
        refine go0 29 [.ix b49 o50 nk ck 0,.f 0 0,.b 1 0] [(66,.bool (t.t.kd == 2),.bool false)] ?_ (ho:=(And.intro (by first | omega | (simp; omega)) (trivial))) (hc:=(And.intro (congrArg Value.bool (beq_eq_false_iff_ne.2 c2)) (trivial)))
        refine uQ 90 (v:=.bool (decide ((nk:Int) > 0))) (v':=.bool true) (congrArg Value.bool (decide_eq_true (by omega))) ?_
        by_cases c1:t.t.kd=1
        ·skip
         refine go0 4 [.b 1 0] [] ?_
         have c52:=RS.cell hfr (hrow)
         refine gQ (c52.sees (S12.trans (S19.trans (S26.trans (S34.trans S42))))) ?_
         refine go0 22 [.ix b49 o50 nk ck 0,.f 0 0] [(98,.bool (t.t.kd == 1),.bool true)] ?_ (ho:=(And.intro (by first | omega | (simp; omega)) (trivial))) (hc:=(And.intro (congrArg Value.bool (beq_iff_eq.2 c1)) (trivial)))
         refine cQ 1 (fun H sH=>hT t _ (hr.sees (S12.trans (S19.trans (S26.trans (S34.trans (S42.trans sH)))))) ht) ?_; rintro _ _ W53 S54 ⟨rfl,rfl⟩
         refine go0 8 [.b 0 0] [] ?_
         refine hQ.toB [.agg #[Vi 1,Vi t.t.vk,Vi t.t.vn,.string ⟨t.t.vs.toArray⟩,Ve,Vz]] [(.slice (tkA A C (k + 1)) (n - (k + 1)) (C - (k + 1)) :: Vi en :: sX)] (fun H sH=>?_) (ix:=[0])
         exact ⟨_,rfl,Vz,by rw [← hz1]; rfl,by rw [hz2],by rw [← hz1]; exact qJ _ _ rfl⟩
        ·skip
         refine go0 4 [.b 1 0] [] ?_
         have c55:=RS.cell hfr (hrow)
         refine gQ (c55.sees (S12.trans (S19.trans (S26.trans (S34.trans S42))))) ?_
         refine go0 9 [.ix b49 o50 nk ck 0,.f 0 0,.b 1 0] [(98,.bool (t.t.kd == 1),.bool false)] ?_ (ho:=(And.intro (by first | omega | (simp; omega)) (trivial))) (hc:=(And.intro (congrArg Value.bool (beq_eq_false_iff_ne.2 c1)) (trivial)))
         have c56:=RS.cell hfr (hrow)
         refine gQ (c56.sees (S12.trans (S19.trans (S26.trans (S34.trans S42))))) ?_
         refine go0 13 [.ix b49 o50 nk ck 0,.f 0 0] [(107,.bool (t.t.kd == 3),.bool true)] ?_ (ho:=(And.intro (by first | omega | (simp; omega)) (trivial))) (hc:=(And.intro (congrArg Value.bool (beq_iff_eq.2 (by omega))) (trivial)))
         refine cQ 1 (fun H sH=>hT t _ (hr.sees (S12.trans (S19.trans (S26.trans (S34.trans (S42.trans sH)))))) ht) ?_; rintro _ _ W57 S58 ⟨rfl,rfl⟩
         refine go0 8 [.b 0 0] [] ?_
         refine hQ.toB [.agg #[Vi 1,Vi t.t.vk,Vi t.t.vn,.string ⟨t.t.vs.toArray⟩,Ve,Vz]] [(.slice (tkA A C (k + 1)) (n - (k + 1)) (C - (k + 1)) :: Vi en :: sX)] (fun H sH=>?_) (ix:=[0])
         exact ⟨_,rfl,Vz,by rw [← hz1]; rfl,by rw [hz2],by rw [← hz1]; exact qJ _ _ rfl⟩
       ·rw [if_neg c13] at hp
        cases hp
theorem prs_all (n:Nat) (hn:n=T.length) (en:Int):∀ f,∀ g,g≤f→PC A C n en T g
 | 0,g,hg=>by
  obtain rfl:g=0:=by omega
  exact ⟨fun _ _ _ _ _ _ _ _ _ h=>(by cases h),fun _ _ _ _ _ _ h=>(by cases h),fun _ _ _ _ _ _ h=>(by cases h),fun _ _ _ _ _ _ _ _ h=>(by cases h)⟩
 | f + 1,g,hg=>by
  have IH:=prs_all n hn en f
  rcases (by omega:g≤f∨g=f + 1) with q | rfl
  ·exact IH g q
  ·exact ⟨fun l k b h x k' hr l1 l6 hp=>level_step n hn en f IH l k b h x k' hr l1 l6 hp,fun k b h x k' hr hp=>one_step n hn en f (IH f (Nat.le_refl _)) k b h x k' hr hp,
    fun k b h x k' hr hp=>whole_step n hn en f (IH f (Nat.le_refl _)) k b h x k' hr hp,fun m k b h l k' hr hm hp=>args_step n hn en (f + 1) (fun g hg=>IH g (by omega)) m k b h l k' hr hm hp⟩
end
end Go.Proofs.YthplkompdehjlaaGreatDoor
namespace Go.Proofs.YthplkompdehjlaaGreatDoor
open Go.RowKit
set_option linter.unusedVariables false
theorem oX {t:TypeId} {a b c:List UInt8} {P:Program} {w:World} (h:a.length + b.length≤100000) (e:a++b=c):(binOp .add t (.string ⟨a.toArray⟩) (.string ⟨b.toArray⟩)).run P w=.ok (.string ⟨c.toArray⟩) w :=
 run_catb (by show Array.size _ + Array.size _≤_; simpa using h) (by simpa using e)
theorem commaB_snoc (p:List UInt8):∀ l:List (List UInt8),cK (l++[p])=if l=[] then p else cK l++(44 :: 32 :: p)
 | []=>rfl
 | [a]=>rfl
 | a :: b :: r=>by
  have ih:=commaB_snoc p (b :: r)
  rw [if_neg (by simp)] at ih ⊢
  show a++44 :: 32 :: cK ((b :: r)++[p])=(a++44 :: 32 :: cK (b :: r))++_
  rw [ih]; simp
theorem commaB_len (N:Nat):∀ l:List (List UInt8),(∀ p∈l,p.length≤N)→(cK l).length≤l.length * (N + 2)
 | [],_=>Nat.zero_le _
 | [p],h=>by have:=h p (by simp); show p.length≤1 * (N + 2); omega
 | p :: q :: r,h=>by
  have ih:=commaB_len N (q :: r) (fun x hx=>h x (List.mem_cons_of_mem _ hx))
  have h0:=h p (by simp)
  show (p++44 :: 32 :: cK (q :: r)).length≤((q :: r).length + 1) * (N + 2)
  rw [List.length_append,List.length_cons,List.length_cons,Nat.add_mul]; omega
theorem shw_len {k n:Int} {s:ByteArray} (hk:KnownV k n s):(uX k n s).length≤90:=by
 rcases hk with ⟨rfl,h,rfl⟩ | ⟨rfl,h,rfl⟩ | ⟨rfl,rfl,h1,h2⟩
 ·show (Lib.itoa n).toArray.toList.length≤90
  have:=Lib.itoa_length_le n (by have:=h.1; omega) (by have:=h.2; omega)
  simp; omega
 ·rcases h with rfl | rfl <;> decide
 ·show (34 :: (jK s.data.toList++[34])).toArray.toList.length≤90
  have:=esc_len s.data.toList
  rw [toList_size] at this
  simp; omega
theorem zW:∀ (m:Nat) (x:Ex) (l:Nat),(szE x).1≤m→WfE x→(prt x l).length≤100 * (szE x).1
 | 0,x,l,hm,_=>by have:=gY x; omega
 | m + 1,x,l,hm,hw=>by
  have IH:=zW m
  have hse:=fY x
  have hwt:=hw.top
  have hwl:=hw.list
  rw [hse] at hm ⊢
  obtain ⟨op,k,n,s,nm,args⟩:=x
  simp only [Ex.args,TopOk,Ex.op,Ex.k,Ex.n,Ex.s,Ex.nm] at hm hwt hwl ⊢
  have hIH:∀ y∈args,∀ l,(prt y l).length≤100 * (szE y).1:=fun y hy l=>IH y l (by have:=(iY hy).1; omega) (hwl.get hy)
  have hbr:∀ (b:Prop) [Decidable b] (q:List UInt8),(brB b q).length≤q.length + 2:=fun b _ q=>by unfold brB; split <;> simp
  rw [prt]
  refine Nat.le_trans (hbr _ _) ?_
  unfold bdB
  rcases hwt with ⟨h1,h2,h3,-⟩ | ⟨h1,h2,-⟩ | ⟨h1,h2,-,-,-,-,h3⟩
  ·rw [if_pos h1]; have:=shw_len h2; omega
  ·rw [if_neg (by omega),if_pos h1]; have:=h2.2.1; omega
  ·rw [if_neg (show ¬ op=1 by omega),if_neg (show ¬ op=2 by omega)]
   rcases lv7 h1 h2 with ⟨q7,q⟩ | ⟨q6,q⟩ | ⟨q1,q5,o5,o16⟩
   ·have hls:mV op=[]:=by rcases q with rfl | rfl <;> decide
    rw [if_pos q7,hls,prtL_nil]
    have hsg:(sgL op).length≤3:=by rcases q with rfl | rfl <;> decide
    have hc:∀ l:List Ex,(∀ y∈l,∀ l,(prt y l).length≤100 * (szE y).1)→(cK (l.map (prt · 1))).length≤100 * (szL l).1 + 2 * l.length:=fun l=>by
     induction l with
     | nil=>intro _; simp [cK]
     | cons y l ih =>
      intro hh
      have i1:=ih (fun y hy=>hh y (List.mem_cons_of_mem _ hy))
      have i0:=hh y (by simp) 1
      rw [szL]
      cases l with
      | nil=>show (prt y 1).length≤_; simp only; omega
      | cons z l =>
       show (prt y 1++44 :: 32 :: cK ((z :: l).map (prt · 1))).length≤_
       rw [List.length_append,List.length_cons,List.length_cons,List.length_cons]
       simp only at i1 ⊢
       simp only [List.length_cons] at i1 ⊢
       omega
    have:=hc args hIH
    have ha:args.length≤3:=by rw [h3]; rcases q with rfl | rfl <;> decide
    simp only [List.length_append,List.length_cons,List.length_nil]
    omega
   ·have hls:mV op=[6]:=by rcases q with rfl | rfl <;> decide
    have har:args.length=1:=by rw [h3]; rcases q with rfl | rfl <;> decide
    obtain ⟨y,rfl⟩:∃ y,args=[y]:=by
     cases args with
     | nil=>simp at har
     | cons a b=>cases b with | nil=>exact ⟨a,rfl⟩ | cons c d=>simp at har
    have:=hIH y (by simp) 6
    rw [if_neg (by omega),hls]
    simp only [szL,prtL,List.headD_cons]
    split
    ·simp only [List.length_cons]; omega
    ·split
     ·simp only [List.length_cons]; omega
     ·omega
   ·have hls:mV op=[if lvO op=3 then 4 else lvO op,lvO op + 1]:=by unfold mV; rw [if_neg (by omega),if_pos ⟨o5,o16⟩]
    have har:args.length=2:=by rw [h3]; unfold arity; rw [if_neg (by omega),if_neg (by omega),if_neg (by omega)]
    obtain ⟨y,z,rfl⟩:∃ y z,args=[y,z]:=by
     cases args with
     | nil=>simp at har
     | cons a b=>cases b with | nil=>simp at har | cons c d=>cases d with | nil=>exact ⟨a,c,rfl⟩ | cons e f=>simp at har
    have i1:=hIH y (by simp) (if lvO op=3 then 4 else lvO op)
    have i2:=hIH z (by simp) (lvO op + 1)
    have hsg:(sgL op).length≤3:=by
     obtain rfl | rfl | rfl | rfl | rfl | rfl | rfl | rfl | rfl | rfl | rfl | rfl:op=5∨op=6∨op=7∨op=8∨op=9∨op=10∨op=11∨op=12∨op=13∨op=14∨op=15∨op=16:=by omega
     all_goals decide
    rw [if_neg (by omega),if_neg (by omega),if_neg (by omega),hls]
    simp only [szL,prtL,List.headD_cons,List.tail_cons,List.length_append,List.length_cons]
    omega
theorem op_nat {op:Int} (h1:1≤op) (h2:op≤18):∃ j:Nat,op=(j:Int)∧(j=1∨j=2∨j=3∨j=4∨j=5∨j=6∨j=7∨j=8∨j=9∨j=10∨j=11∨j=12∨j=13∨j=14∨j=15∨j=16∨j=17∨j=18):=⟨op.toNat,by omega,by omega⟩
theorem sh_lv {j:Nat} (h:j=1∨j=2∨j=3∨j=4∨j=5∨j=6∨j=7∨j=8∨j=9∨j=10∨j=11∨j=12∨j=13∨j=14∨j=15∨j=16∨j=17∨j=18):shL j=lvO (j:Int)∧shS j=sgL (j:Int):=by
 rcases h with rfl | rfl | rfl | rfl | rfl | rfl | rfl | rfl | rfl | rfl | rfl | rfl | rfl | rfl | rfl | rfl | rfl | rfl
 all_goals decide
set_option maxHeartbeats 1000000 in
theorem printed_any : ∀ (m : Nat) (x : Ex) (v : Value) (l : Nat) (h : Vw), (szE x).1 ≤ m → IsArgs h x v → WfE x → Lk h → (szE x).1 ≤ 60 → l ≤ 6 →
    C0 Tryz.prog 26 #[.agg #[.int .i64 x.op, .int .i64 x.k, .int .i64 x.n, .string x.s, .string x.nm, v], .int .i64 (l : Int)] h (fun r _ => r = .string ⟨(prt x l).toArray⟩)
  | 0, x, v, l, h, hm, _, _, _, _, _ => by have := gY x; omega
  | m + 1, x, v, l, h, hm, hx, hw, lk, hb, hl6 => by
    have IH := printed_any m
    have hse := fY x
    obtain ⟨vs, hr, hvs⟩ := hx.form
    obtain ⟨A, ca, rfl, hc1, hc2, -⟩ := hr.form
    have hvl := hvs.len
    have hwt := hw.top
    have hwl := hw.list
    have hpl := zW _ x l (Nat.le_refl _) hw
    rw [nK hvl] at hc1 hr ⊢
    rw [hse] at hm hb
    obtain ⟨op, kx, nx, s, nm, args⟩ := x
    simp only [Ex.args, TopOk, Ex.op, Ex.k, Ex.n, Ex.s, Ex.nm] at hm hb hwt hwl hr hvs hvl hc1 ⊢
    have hsl := fun y (hy : y ∈ args) => (iY hy).1
    have hIH : ∀ y ∈ args, ∀ (u : Value) (l : Nat) H, IsArgs H y u → Lk H → l ≤ 6 → C0 Tryz.prog 26 #[.agg #[.int .i64 y.op, .int .i64 y.k, .int .i64 y.n, .string y.s, .string y.nm, u], .int .i64 (l : Int)] H (fun r _ => r = .string ⟨(prt y l).toArray⟩) := fun y hy u l H q1 q2 q3 => IH y u l H (by have := hsl y hy; omega) q1 (hwl.get hy) q2 (by have := hsl y hy; omega) q3
    have hLen : ∀ y ∈ args, ∀ l, (prt y l).length ≤ 6000 := fun y hy l => by have := zW _ y l (Nat.le_refl _) (hwl.get hy); have := hsl y hy; omega
    clear IH hw
    obtain ⟨j, rfl, hj⟩ : ∃ j : Nat, op = (j : Int) ∧ _ := op_nat (by omega) (by omega)
    obtain ⟨hL, hS⟩ := sh_lv hj
    rw [prt] at hpl ⊢
    generalize hbd : bdB (j : Int) kx nx s nm (prtL args (mV (j : Int))) = bd at *
    refine fQ Tryz.func26 (c := Tryz.f26.body.getD .skip) (N := 115) ?_
    intro hbx hbad Q hQ
    refine go1 7 [.own] [] ?_
    intro b1
    refine tQ 6 1 [.v (fun gh => .agg rX), .pu, .ld 1 0, .v (fun gh => .agg #[.string (shB j), Vi ((shL j : Nat) : Int), Vi ((shN j : Nat) : Int)]), .al 0, .st 0 0] [(4, true)] (trivial) ?_ ?_
    · intro R hT hA hmono
      refine And.intro (t_v hT hA hmono (k := 29) (args := (fun gh => #[])) (f := fun gh => .agg rX) (fun gh H sH fH lent => tX _)) ?_
      refine And.intro (t_p hT hA (fun gh => .agg #[.string (shB j), Vi ((shL j : Nat) : Int), Vi ((shN j : Nat) : Int)]) (fun gh w => by rcases hj with rfl | rfl | rfl | rfl | rfl | rfl | rfl | rfl | rfl | rfl | rfl | rfl | rfl | rfl | rfl | rfl | rfl | rfl <;> kernel_rfl)) ?_
      trivial
    rintro b2 W3 S4 -
    refine go0 16 [.b 1 0] [] ?_
    have hbl : bd.length ≤ 6200 := by
      have h0 : bd.length ≤ (brB (lvO (j : Int) < l) bd).length := by
        unfold brB
        split
        · simp only [List.length_cons, List.length_append]; omega
        · exact Nat.le_refl _
      have h1 := congrArg Prod.fst hse
      simp only [Ex.args] at h1
      omega
    unfold bdB at hbd
    rw [← hL, ← hS] at hbd
    have hsg : (shS j).length ≤ 3 := by rcases hj with rfl | rfl | rfl | rfl | rfl | rfl | rfl | rfl | rfl | rfl | rfl | rfl | rfl | rfl | rfl | rfl | rfl | rfl <;> decide
    refine g_cut [1, 0, 0, 1, 1, 1] [.block 0, .seq [1, 1, 1, 1]] (fun X => ∃ (W5 : Vw) , X W5 [(1, Vi (l : Int)), (5, Vp b2), (6, .string ⟨bd.toArray⟩)] [.box b2 [.string (shB j), Vi ((shL j : Nat) : Int), Vi ((shN j : Nat) : Int)], .box b1 [Vi (j : Int), Vi kx, Vi nx, .string s, .string nm, .slice A args.length ca]] [] ∧ Sees W3 W5) [(1, Vi (l : Int)), (2, Vp b1), (5, Vp b2), (40, .bool ((j : Int) == 1))] [.box b2 [.string (shB j), Vi ((shL j : Nat) : Int), Vi ((shN j : Nat) : Int)], .box b1 [Vi (j : Int), Vi kx, Vi nx, .string s, .string nm, .slice A args.length ca]] [] ?_ ?_
    · skip
      rcases hwt with ⟨h1, h2, h3, -⟩ | ⟨h1, h2, -⟩ | ⟨h1, h2, h3, h4, h5, h6, h7⟩
      · rw [if_pos h1] at hbd
        have hSh := fun H q => sh_ok ⟨kx, nx, s⟩ H q (.inl h2)
        have he : showV ⟨kx, nx, s⟩ = ⟨bd.toArray⟩ := by rw [← hbd]; rfl
        rw [he] at hSh
        refine wQ (t := (j : Int) == 1) (beq_iff_eq.2 h1) ?_
        refine go0 9 [.b 1 1, .cl 58 #[.agg #[Vi kx, Vi nx, .string s]] (.tuple #[.string ⟨bd.toArray⟩, Vi 0])] [] ?_ (ho := (And.intro (fun H sH => hSh _ (lk.sees (S4.trans sH))) (trivial)))
        exact g_meet (fun X q => ⟨W3, q _ _ _ _ ⟨rfl, by kernel_rfl⟩, (Sees.refl _)⟩)
      · skip
        rw [if_neg (by omega), if_pos h1] at hbd
        have he : nm = ⟨bd.toArray⟩ := by rw [← hbd]
        refine iQ (t := (j : Int) == 1) (beq_eq_false_iff_ne.2 (by omega)) ?_
        refine go0 8 [.b 1 0] [] ?_
        refine wQ (t := (j : Int) == 2) (beq_iff_eq.2 h1) ?_
        refine go0 5 [.b 1 4] [] ?_
        refine uQ 6 (v := .string nm) (v' := .string ⟨bd.toArray⟩) (congrArg Value.string he) ?_
        exact g_meet (fun X q => ⟨W3, q _ _ _ _ ⟨rfl, by kernel_rfl⟩, (Sees.refl _)⟩)
      · skip
        rw [if_neg (by omega), if_neg (by omega)] at hbd
        refine iQ (t := (j : Int) == 1) (beq_eq_false_iff_ne.2 (by omega)) ?_
        refine go0 8 [.b 1 0] [] ?_
        refine iQ (t := (j : Int) == 2) (beq_eq_false_iff_ne.2 (by omega)) ?_
        refine go0 8 [.b 0 1] [] ?_
        rcases lv7 h1 h2 with ⟨q7, q⟩ | ⟨q6, q⟩ | ⟨q1, q5, o5, o16⟩
        · have hls : mV (j : Int) = [] := by rcases q with q | q <;> rw [q] <;> decide
          have ha3 : args.length ≤ 3 := by rw [h7]; rcases q with q | q <;> rw [q] <;> decide
          rw [if_pos (by omega), hls, prtL_nil] at hbd
          have hPl := fun i => commaB_len 6000 ((args.map (prt · 1)).take i) (fun p hp => by obtain ⟨y, hy, rfl⟩ := List.mem_map.1 (List.mem_of_mem_take hp); exact hLen y hy 1)
          simp only [List.length_take, List.length_map] at hPl
          refine wQ (t := ((shL j : Nat) : Int) == 7) (beq_iff_eq.2 (by omega)) ?_
          refine go0 4 [.b 0 0] [] ?_
          refine qQ (.string ⟨(shS j ++ [40]).toArray⟩) (fun w => nX (op := .add) (t := 9) (x := (.tmp 61)) (y := (.const (.string ⟨#[40]⟩))) (yt := 9) (va := .string ⟨(shS j).toArray⟩) (vb := .string ⟨([40]).toArray⟩) (by kernel_rfl) (by kernel_rfl) (by kernel_rfl) (by kernel_rfl) (oX (a := shS j) (b := [40]) (c := shS j ++ [40]) (by first | omega | (simp only [List.length_cons, List.length_nil]; omega) | (simp only [List.length_append, List.length_cons, List.length_nil]; omega)) (rfl))) ?_
          refine go0 13 [.b 1 5] [] ?_
          refine mQ [0, 1, 0, 1, 0, 1, 1, 1, 1, 1, 0, 0, 1, 1, 1] [.block 1, .seq [1, 1, 0, 1, 1, 1, 1, 1, 0, 0, 1, 1, 1]] (fun (i : Nat) X => ∃ (W7 : Vw) , X W7 [(1, Vi (l : Int)), (5, Vp b2), (64, .slice A args.length ca), (65, Vi (args.length : Int)), (66, Vi (i : Int)), (6, .string ⟨(shS j ++ 40 :: cK ((args.map (prt · 1)).take i)).toArray⟩)] [.box b2 [.string (shB j), Vi ((shL j : Nat) : Int), Vi ((shN j : Nat) : Int)], .box b1 [Vi (j : Int), Vi kx, Vi nx, .string s, .string nm, .slice A args.length ca]] [] ∧ Sees W3 W7 ∧ (i ≤ args.length)) (fun i => args.length - i) (0) (fun X q => ⟨W3, q _ _ _ _ ⟨rfl, by kernel_rfl⟩, Sees.refl _, Nat.zero_le _⟩) ?_
          rintro i a w ⟨W7, hJ, S8, hi⟩; refine pQ hJ ?_; clear hJ a w
          refine go0 6 [] [] ?_
          have hPi := hPl i
          rw [Nat.min_eq_left hi] at hPi
          have hPm : i * 6002 ≤ 3 * 6002 := Nat.mul_le_mul_right _ (by omega)
          rcases (by omega : i < args.length ∨ i = args.length) with hlt | hke
          · obtain ⟨y, hy⟩ : ∃ y, args[i]? = some y := ⟨_, List.getElem?_eq_getElem (by omega)⟩
            obtain ⟨uu, hu⟩ : ∃ y, vs[i]? = some y := ⟨_, List.getElem?_eq_getElem (by omega)⟩
            have hyu := AllArgs.get hvs hy hu
            obtain ⟨Au, nu, cu, rfl⟩ := hyu.slice
            have hrow : (mK args vs)[i]? = some (exRow y (.slice Au nu cu)) := by show (List.zipWith exRow _ _)[i]? = _; rw [List.getElem?_zipWith, hy, hu]
            have hpy := hLen y (List.mem_of_getElem? hy) 1
            have hPs : (args.map (prt · 1)).take (i + 1) = (args.map (prt · 1)).take i ++ [prt y 1] := jY _ i _ (by rw [List.getElem?_map, hy]; rfl)
            have hcs := commaB_snoc (prt y 1) ((args.map (prt · 1)).take i)
            rw [← hPs] at hcs
            refine wQ (t := decide ((i : Int) < (args.length : Int))) (decide_eq_true (by omega)) ?_
            refine go0 7 [] [] ?_
            obtain ⟨b9, o10, rfl, -, c11⟩ := RS.row hr (hrow)
            refine gQ (c11.sees (S4.trans S8)) ?_
            refine go1 14 [.ix b9 o10 args.length ca i, .f 0 0, .own, .b 0 0] [] ?_ (ho := (And.intro (by first | omega | (simp; omega)) (trivial)))
            intro b12
            by_cases i0 : i = 0
            · rw [if_pos (by rw [i0]; rfl)] at hcs
              refine iQ (t := decide ((i : Int) > 0)) (decide_eq_false (by omega)) ?_
              refine go0 6 [.b 0 0, .cl 26 #[.agg #[Vi y.op, Vi y.k, Vi y.n, .string y.s, .string y.nm, .slice Au nu cu], Vi 1] (.string ⟨(prt y 1).toArray⟩)] [] ?_ (ho := (And.intro (fun H sH => hIH y (List.mem_of_getElem? hy) _ 1 _ (hyu.sees (S4.trans (S8.trans sH))) (lk.sees (S4.trans (S8.trans sH))) (by omega)) (trivial)))
              refine qQ (.string ⟨(shS j ++ 40 :: cK ((args.map (prt · 1)).take (i + 1))).toArray⟩) (fun w => nX (op := .add) (t := 9) (x := (.tmp 75)) (y := (.tmp 77)) (yt := 9) (va := .string ⟨(shS j ++ 40 :: cK ((args.map (prt · 1)).take i)).toArray⟩) (vb := .string ⟨(prt y 1).toArray⟩) (by kernel_rfl) (by kernel_rfl) (by kernel_rfl) (by kernel_rfl) (oX (a := shS j ++ 40 :: cK ((args.map (prt · 1)).take i)) (b := prt y 1) (c := shS j ++ 40 :: cK ((args.map (prt · 1)).take (i + 1))) (by rw [i0]; simp [cK]; omega) (by rw [hcs, i0]; simp [cK]))) ?_
              refine go0 8 [] [(79, Vi (IntKind.i64.wrap ((i : Int) + 1)), Vi ((i : Int) + 1))] ?_ (hc := (And.intro (jJ (by omega) (by omega)) (trivial)))
              exact vQ (i + 1) (fun X q => ⟨W7, q _ _ _ _ ⟨rfl, by kernel_rfl⟩, S8, by omega⟩) (by omega)
            · skip
              rw [if_neg (by intro q; have := congrArg List.length q; rw [List.length_take, List.length_map] at this; simp only [List.length_nil] at this; omega)] at hcs
              refine wQ (t := decide ((i : Int) > 0)) (decide_eq_true (by omega)) ?_
              refine go0 2 [] [] ?_
              refine qQ (.string ⟨((shS j ++ 40 :: cK ((args.map (prt · 1)).take i)) ++ [44, 32]).toArray⟩) (fun w => nX (op := .add) (t := 9) (x := (.tmp 73)) (y := (.const (.string ⟨#[44, 32]⟩))) (yt := 9) (va := .string ⟨(shS j ++ 40 :: cK ((args.map (prt · 1)).take i)).toArray⟩) (vb := .string ⟨([44, 32]).toArray⟩) (by kernel_rfl) (by kernel_rfl) (by kernel_rfl) (by kernel_rfl) (oX (a := shS j ++ 40 :: cK ((args.map (prt · 1)).take i)) (b := [44, 32]) (c := (shS j ++ 40 :: cK ((args.map (prt · 1)).take i)) ++ [44, 32]) (by first | omega | (simp only [List.length_cons, List.length_nil]; omega) | (simp only [List.length_append, List.length_cons, List.length_nil]; omega)) (rfl))) ?_
              refine go0 7 [.b 0 0, .cl 26 #[.agg #[Vi y.op, Vi y.k, Vi y.n, .string y.s, .string y.nm, .slice Au nu cu], Vi 1] (.string ⟨(prt y 1).toArray⟩)] [] ?_ (ho := (And.intro (fun H sH => hIH y (List.mem_of_getElem? hy) _ 1 _ (hyu.sees (S4.trans (S8.trans sH))) (lk.sees (S4.trans (S8.trans sH))) (by omega)) (trivial)))
              refine qQ (.string ⟨(shS j ++ 40 :: cK ((args.map (prt · 1)).take (i + 1))).toArray⟩) (fun w => nX (op := .add) (t := 9) (x := (.tmp 75)) (y := (.tmp 77)) (yt := 9) (va := .string ⟨((shS j ++ 40 :: cK ((args.map (prt · 1)).take i)) ++ [44, 32]).toArray⟩) (vb := .string ⟨(prt y 1).toArray⟩) (by kernel_rfl) (by kernel_rfl) (by kernel_rfl) (by kernel_rfl) (oX (a := (shS j ++ 40 :: cK ((args.map (prt · 1)).take i)) ++ [44, 32]) (b := prt y 1) (c := shS j ++ 40 :: cK ((args.map (prt · 1)).take (i + 1))) (by first | omega | (simp only [List.length_cons, List.length_nil]; omega) | (simp only [List.length_append, List.length_cons, List.length_nil]; omega)) (by rw [hcs]; simp))) ?_
              refine go0 8 [] [(79, Vi (IntKind.i64.wrap ((i : Int) + 1)), Vi ((i : Int) + 1))] ?_ (hc := (And.intro (jJ (by omega) (by omega)) (trivial)))
              exact vQ (i + 1) (fun X q => ⟨W7, q _ _ _ _ ⟨rfl, by kernel_rfl⟩, S8, by omega⟩) (by omega)
          · skip
            have hta : (args.map (prt · 1)).take i = args.map (prt · 1) := by rw [hke, List.take_of_length_le (by simp)]
            refine iQ (t := decide ((i : Int) < (args.length : Int))) (decide_eq_false (by omega)) ?_
            refine go0 2 [] [] ?_
            refine lQ ?_
            refine go0 4 [] [] ?_
            refine qQ (.string ⟨(bd).toArray⟩) (fun w => nX (op := .add) (t := 9) (x := (.tmp 80)) (y := (.const (.string ⟨#[41]⟩))) (yt := 9) (va := .string ⟨(shS j ++ 40 :: cK ((args.map (prt · 1)).take i)).toArray⟩) (vb := .string ⟨([41]).toArray⟩) (by kernel_rfl) (by kernel_rfl) (by kernel_rfl) (by kernel_rfl) (oX (a := shS j ++ 40 :: cK ((args.map (prt · 1)).take i)) (b := [41]) (c := bd) (by first | omega | (simp only [List.length_cons, List.length_nil]; omega) | (simp only [List.length_append, List.length_cons, List.length_nil]; omega)) (by rw [← hbd, hta]; simp))) ?_
            refine go0 2 [] [] ?_
            exact g_meet (fun X q => ⟨W7, q _ _ _ _ ⟨rfl, by kernel_rfl⟩, S8⟩)
        · skip
          have hls : mV (j : Int) = [6] := by rcases q with q | q <;> rw [q] <;> decide
          have har : args.length = 1 := by rw [h7]; rcases q with q | q <;> rw [q] <;> decide
          rw [if_neg (by omega), hls] at hbd
          obtain ⟨y, hy⟩ : ∃ y, args[0]? = some y := ⟨_, List.getElem?_eq_getElem (by omega)⟩
          have hpr : (prtL args [6]).headD [] = prt y 6 := by
            cases args with
            | nil => simp at har
            | cons a b => simp at hy; subst hy; rfl
          obtain ⟨uu, hu⟩ : ∃ y, vs[0]? = some y := ⟨_, List.getElem?_eq_getElem (by omega)⟩
          have hyu := AllArgs.get hvs hy hu
          obtain ⟨Au, nu, cu, rfl⟩ := hyu.slice
          have hrow : (mK args vs)[0]? = some (exRow y (.slice Au nu cu)) := by show (List.zipWith exRow _ _)[0]? = _; rw [List.getElem?_zipWith, hy, hu]
          rw [hpr] at hbd
          have hpy := hLen y (List.mem_of_getElem? hy) 6
          rcases q with q | q
          · rw [if_pos q] at hbd
            have hs3 : shS j = [45] := by obtain rfl : j = 3 := by omega
                                          rfl
            refine iQ (t := ((shL j : Nat) : Int) == 7) (beq_eq_false_iff_ne.2 (by omega)) ?_
            refine go0 8 [.b 1 0] [] ?_
            refine wQ (t := (j : Int) == 3) (beq_iff_eq.2 q) ?_
            obtain ⟨b13, o14, rfl, -, c15⟩ := RS.row hr (hrow)
            refine gQ (c15.sees S4) ?_
            refine tQ 9 0 [.pu, .ld 0 0, .pu, .ld 1 5, .v (fun gh => .pointer (some ⟨b13, o14 + 0 * 6, none⟩)), .lf 0 0, .v (fun gh => .string ⟨(prt y 6).toArray⟩), .v (fun gh => .string ⟨(bd).toArray⟩), .pu] [] (trivial) ?_ ?_
            · intro R hT hA hmono
              refine And.intro (t_ix hT hA b13 o14 args.length ca 0 (fun gh => .pointer (some ⟨b13, o14 + 0 * 6, none⟩)) (by first | omega | (simp; omega))) ?_
              refine And.intro (t_v hT hA hmono (k := 26) (args := (fun gh => #[.agg #[Vi y.op, Vi y.k, Vi y.n, .string y.s, .string y.nm, .slice Au nu cu], Vi 6])) (f := fun gh => .string ⟨(prt y 6).toArray⟩) (fun gh H sH fH lent => hIH y (List.mem_of_getElem? hy) _ 6 _ (hyu.sees (S4.trans sH)) (lk.sees (S4.trans sH)) (by omega))) ?_
              refine And.intro (t_p hT hA (fun gh => .string ⟨(bd).toArray⟩) (fun gh w => nX (op := .add) (t := 9) (x := (.tmp 87)) (y := (.tmp 92)) (yt := 9) (va := .string ⟨(shS j).toArray⟩) (vb := .string ⟨(prt y 6).toArray⟩) (by kernel_rfl) (by kernel_rfl) (by kernel_rfl) (by kernel_rfl) (oX (a := shS j) (b := prt y 6) (c := bd) (by omega) (by rw [← hbd, hs3]; rfl)))) ?_
              trivial
            rintro W16 S17 -
            exact g_meet (fun X q => ⟨W16, q _ _ _ _ ⟨rfl, by kernel_rfl⟩, S17⟩)
          · skip
            rw [if_neg (by omega), if_pos q] at hbd
            have hs3 : shS j = [110, 111, 116] := by obtain rfl : j = 4 := by omega
                                                     rfl
            refine iQ (t := ((shL j : Nat) : Int) == 7) (beq_eq_false_iff_ne.2 (by omega)) ?_
            refine go0 8 [.b 1 0] [] ?_
            refine iQ (t := (j : Int) == 3) (beq_eq_false_iff_ne.2 (by omega)) ?_
            refine go0 8 [.b 1 0] [] ?_
            refine wQ (t := (j : Int) == 4) (beq_iff_eq.2 q) ?_
            obtain ⟨b18, o19, rfl, -, c20⟩ := RS.row hr (hrow)
            refine gQ (c20.sees S4) ?_
            refine tQ 10 0 [.pu, .ld 0 0, .v (fun gh => .string ⟨(shS j ++ [32]).toArray⟩), .pu, .ld 1 5, .v (fun gh => .pointer (some ⟨b18, o19 + 0 * 6, none⟩)), .lf 0 0, .v (fun gh => .string ⟨(prt y 6).toArray⟩), .v (fun gh => .string ⟨(bd).toArray⟩), .pu] [] (trivial) ?_ ?_
            · intro R hT hA hmono
              refine And.intro (t_p hT hA (fun gh => .string ⟨(shS j ++ [32]).toArray⟩) (fun gh w => nX (op := .add) (t := 9) (x := (.tmp 99)) (y := (.const (.string ⟨#[32]⟩))) (yt := 9) (va := .string ⟨(shS j).toArray⟩) (vb := .string ⟨([32]).toArray⟩) (by kernel_rfl) (by kernel_rfl) (by kernel_rfl) (by kernel_rfl) (oX (a := shS j) (b := [32]) (c := shS j ++ [32]) (by first | omega | (simp only [List.length_cons, List.length_nil]; omega) | (simp only [List.length_append, List.length_cons, List.length_nil]; omega)) (rfl)))) ?_
              refine And.intro (t_ix hT hA b18 o19 args.length ca 0 (fun gh => .pointer (some ⟨b18, o19 + 0 * 6, none⟩)) (by first | omega | (simp; omega))) ?_
              refine And.intro (t_v hT hA hmono (k := 26) (args := (fun gh => #[.agg #[Vi y.op, Vi y.k, Vi y.n, .string y.s, .string y.nm, .slice Au nu cu], Vi 6])) (f := fun gh => .string ⟨(prt y 6).toArray⟩) (fun gh H sH fH lent => hIH y (List.mem_of_getElem? hy) _ 6 _ (hyu.sees (S4.trans sH)) (lk.sees (S4.trans sH)) (by omega))) ?_
              refine And.intro (t_p hT hA (fun gh => .string ⟨(bd).toArray⟩) (fun gh w => nX (op := .add) (t := 9) (x := (.tmp 100)) (y := (.tmp 105)) (yt := 9) (va := .string ⟨(shS j ++ [32]).toArray⟩) (vb := .string ⟨(prt y 6).toArray⟩) (by kernel_rfl) (by kernel_rfl) (by kernel_rfl) (by kernel_rfl) (oX (a := shS j ++ [32]) (b := prt y 6) (c := bd) (by first | omega | (simp only [List.length_cons, List.length_nil]; omega) | (simp only [List.length_append, List.length_cons, List.length_nil]; omega)) (by rw [← hbd, hs3]; rfl)))) ?_
              trivial
            rintro W21 S22 -
            exact g_meet (fun X q => ⟨W21, q _ _ _ _ ⟨rfl, by kernel_rfl⟩, S22⟩)
        · skip
          have hls : mV (j : Int) = [if shL j = 3 then 4 else shL j, shL j + 1] := by rw [hL]; unfold mV; rw [if_neg (by omega), if_pos ⟨o5, o16⟩]
          have har : args.length = 2 := by rw [h7]; unfold arity; rw [if_neg (by omega), if_neg (by omega), if_neg (by omega)]
          rw [if_neg (by omega), if_neg (by omega), if_neg (by omega), hls] at hbd
          obtain ⟨y, hy⟩ : ∃ y, args[0]? = some y := ⟨_, List.getElem?_eq_getElem (by omega)⟩
          obtain ⟨y2, hy2⟩ : ∃ y, args[1]? = some y := ⟨_, List.getElem?_eq_getElem (by omega)⟩
          have hpr : (prtL args [if shL j = 3 then 4 else shL j, shL j + 1]).headD [] = prt y (if shL j = 3 then 4 else shL j) ∧ (prtL args [if shL j = 3 then 4 else shL j, shL j + 1]).tail.headD [] = prt y2 (shL j + 1) := by
            cases args with
            | nil => simp at har
            | cons a b =>
              simp at hy; subst hy
              cases b with
              | nil => simp at har
              | cons c d => simp at hy2; subst hy2; exact ⟨rfl, rfl⟩
          obtain ⟨uu, hu⟩ : ∃ y, vs[0]? = some y := ⟨_, List.getElem?_eq_getElem (by omega)⟩
          have hyu := AllArgs.get hvs hy hu
          obtain ⟨Au, nu, cu, rfl⟩ := hyu.slice
          have hrow : (mK args vs)[0]? = some (exRow y (.slice Au nu cu)) := by show (List.zipWith exRow _ _)[0]? = _; rw [List.getElem?_zipWith, hy, hu]
          obtain ⟨uu2, hu2⟩ : ∃ y, vs[1]? = some y := ⟨_, List.getElem?_eq_getElem (by omega)⟩
          have hyu2 := AllArgs.get hvs hy2 hu2
          obtain ⟨Au2, nu2, cu2, rfl⟩ := hyu2.slice
          have hrow2 : (mK args vs)[1]? = some (exRow y2 (.slice Au2 nu2 cu2)) := by show (List.zipWith exRow _ _)[1]? = _; rw [List.getElem?_zipWith, hy2, hu2]
          rw [hpr.1, hpr.2] at hbd
          have hpy := hLen y (List.mem_of_getElem? hy) (if shL j = 3 then 4 else shL j)
          have hpy2 := hLen y2 (List.mem_of_getElem? hy2) (shL j + 1)
          have hI1 : ∀ (l2 : Nat) H, IsArgs H y (.slice Au nu cu) → Lk H → l2 ≤ 6 → l2 = (if shL j = 3 then 4 else shL j) → C0 Tryz.prog 26 #[.agg #[.int .i64 y.op, .int .i64 y.k, .int .i64 y.n, .string y.s, .string y.nm, .slice Au nu cu], .int .i64 (l2 : Int)] H (fun r _ => r = .string ⟨(prt y (if shL j = 3 then 4 else shL j)).toArray⟩) := fun l2 H q1 q2 q3 e => by rw [← e]; exact hIH y (List.mem_of_getElem? hy) (.slice Au nu cu) l2 H q1 q2 q3
          have hI2 := fun H q1 q2 q3 => hIH y2 (List.mem_of_getElem? hy2) (.slice Au2 nu2 cu2) (shL j + 1) H q1 q2 q3
          generalize prt y (if shL j = 3 then 4 else shL j) = pa at *
          generalize prt y2 (shL j + 1) = pb at *
          refine iQ (t := ((shL j : Nat) : Int) == 7) (beq_eq_false_iff_ne.2 (by omega)) ?_
          refine go0 8 [.b 1 0] [] ?_
          refine iQ (t := (j : Int) == 3) (beq_eq_false_iff_ne.2 (by omega)) ?_
          refine go0 8 [.b 1 0] [] ?_
          refine iQ (t := (j : Int) == 4) (beq_eq_false_iff_ne.2 (by omega)) ?_
          refine go0 14 [.b 0 1] [] ?_
          by_cases l3 : shL j = 3
          · skip
            refine wQ (t := ((shL j : Nat) : Int) == 3) (beq_iff_eq.2 (by omega)) ?_
            refine go0 6 [] [(19, Vi (IntKind.i64.wrap (((shL j : Nat) : Int) + 1)), Vi ((4 : Nat) : Int))] ?_ (hc := (And.intro ((jJ (by omega) (by omega)).trans (congrArg (Value.int .i64) (by omega))) (trivial)))
            obtain ⟨b23, o24, rfl, -, c25⟩ := RS.row hr (hrow)
            refine gQ (c25.sees S4) ?_
            have c26 := RS.cell hr (hrow2)
            refine gQ (c26.sees S4) ?_
            refine tQ 21 0 [.pu, .ld 1 5, .v (fun gh => .pointer (some ⟨b23, o24 + 0 * 6, none⟩)), .lf 1 0, .pu, .v (fun gh => .string ⟨pa.toArray⟩), .v (fun gh => .string ⟨(pa ++ [32]).toArray⟩), .pu, .ld 0 0, .v (fun gh => .string ⟨(pa ++ [32] ++ shS j).toArray⟩), .v (fun gh => .string ⟨(pa ++ [32] ++ shS j ++ [32]).toArray⟩), .pu, .ld 1 5, .v (fun gh => .pointer (some ⟨b23, o24 + 1 * 6, none⟩)), .lf 0 0, .pu, .ld 0 1, .v (fun gh => Vi ((shL j + 1 : Nat) : Int)), .v (fun gh => .string ⟨pb.toArray⟩), .v (fun gh => .string ⟨(bd).toArray⟩), .pu] [] (trivial) ?_ ?_
            · intro R hT hA hmono
              refine And.intro (t_ix hT hA b23 o24 args.length ca 0 (fun gh => .pointer (some ⟨b23, o24 + 0 * 6, none⟩)) (by first | omega | (simp; omega))) ?_
              refine And.intro (t_v hT hA hmono (k := 26) (args := (fun gh => #[.agg #[Vi y.op, Vi y.k, Vi y.n, .string y.s, .string y.nm, .slice Au nu cu], Vi ((4 : Nat) : Int)])) (f := fun gh => .string ⟨pa.toArray⟩) (fun gh H sH fH lent => hI1 4 _ (hyu.sees (S4.trans sH)) (lk.sees (S4.trans sH)) (by omega) (by rw [if_pos l3]))) ?_
              refine And.intro (t_p hT hA (fun gh => .string ⟨(pa ++ [32]).toArray⟩) (fun gh w => nX (op := .add) (t := 9) (x := (.tmp 25)) (y := (.const (.string ⟨#[32]⟩))) (yt := 9) (va := .string ⟨(pa).toArray⟩) (vb := .string ⟨([32]).toArray⟩) (by kernel_rfl) (by kernel_rfl) (by kernel_rfl) (by kernel_rfl) (oX (a := pa) (b := [32]) (c := pa ++ [32]) (by first | omega | (simp only [List.length_cons, List.length_nil]; omega) | (simp only [List.length_append, List.length_cons, List.length_nil]; omega)) (rfl)))) ?_
              refine And.intro (t_p hT hA (fun gh => .string ⟨(pa ++ [32] ++ shS j).toArray⟩) (fun gh w => nX (op := .add) (t := 9) (x := (.tmp 26)) (y := (.tmp 28)) (yt := 9) (va := .string ⟨(pa ++ [32]).toArray⟩) (vb := .string ⟨(shS j).toArray⟩) (by kernel_rfl) (by kernel_rfl) (by kernel_rfl) (by kernel_rfl) (oX (a := pa ++ [32]) (b := shS j) (c := pa ++ [32] ++ shS j) (by first | omega | (simp only [List.length_cons, List.length_nil]; omega) | (simp only [List.length_append, List.length_cons, List.length_nil]; omega)) (rfl)))) ?_
              refine And.intro (t_p hT hA (fun gh => .string ⟨(pa ++ [32] ++ shS j ++ [32]).toArray⟩) (fun gh w => nX (op := .add) (t := 9) (x := (.tmp 29)) (y := (.const (.string ⟨#[32]⟩))) (yt := 9) (va := .string ⟨(pa ++ [32] ++ shS j).toArray⟩) (vb := .string ⟨([32]).toArray⟩) (by kernel_rfl) (by kernel_rfl) (by kernel_rfl) (by kernel_rfl) (oX (a := pa ++ [32] ++ shS j) (b := [32]) (c := pa ++ [32] ++ shS j ++ [32]) (by first | omega | (simp only [List.length_cons, List.length_nil]; omega) | (simp only [List.length_append, List.length_cons, List.length_nil]; omega)) (rfl)))) ?_
              refine And.intro (t_ix hT hA b23 o24 args.length ca 1 (fun gh => .pointer (some ⟨b23, o24 + 1 * 6, none⟩)) (by first | omega | (simp; omega))) ?_
              refine And.intro (t_eq hT hA (fun gh => Vi ((shL j + 1 : Nat) : Int)) (fun gh => Vi (IntKind.i64.wrap (((shL j : Nat) : Int) + 1))) (fun gh => jJ (by omega) (by omega))) ?_
              refine And.intro (t_v hT hA hmono (k := 26) (args := (fun gh => #[.agg #[Vi y2.op, Vi y2.k, Vi y2.n, .string y2.s, .string y2.nm, .slice Au2 nu2 cu2], Vi ((shL j + 1 : Nat) : Int)])) (f := fun gh => .string ⟨pb.toArray⟩) (fun gh H sH fH lent => hI2 _ (hyu2.sees (S4.trans sH)) (lk.sees (S4.trans sH)) (by omega))) ?_
              refine And.intro (t_p hT hA (fun gh => .string ⟨(bd).toArray⟩) (fun gh w => nX (op := .add) (t := 9) (x := (.tmp 30)) (y := (.tmp 38)) (yt := 9) (va := .string ⟨(pa ++ [32] ++ shS j ++ [32]).toArray⟩) (vb := .string ⟨(pb).toArray⟩) (by kernel_rfl) (by kernel_rfl) (by kernel_rfl) (by kernel_rfl) (oX (a := pa ++ [32] ++ shS j ++ [32]) (b := pb) (c := bd) (by first | omega | (simp only [List.length_cons, List.length_nil]; omega) | (simp only [List.length_append, List.length_cons, List.length_nil]; omega)) (by rw [← hbd]; simp)))) ?_
              trivial
            rintro W27 S28 -
            exact g_meet (fun X q => ⟨W27, q _ _ _ _ ⟨rfl, by kernel_rfl⟩, S28⟩)
          · skip
            refine iQ (t := ((shL j : Nat) : Int) == 3) (beq_eq_false_iff_ne.2 (by omega)) ?_
            refine go0 2 [] [] ?_
            obtain ⟨b29, o30, rfl, -, c31⟩ := RS.row hr (hrow)
            refine gQ (c31.sees S4) ?_
            have c32 := RS.cell hr (hrow2)
            refine gQ (c32.sees S4) ?_
            refine tQ 21 0 [.pu, .ld 1 5, .v (fun gh => .pointer (some ⟨b29, o30 + 0 * 6, none⟩)), .lf 1 0, .pu, .v (fun gh => .string ⟨pa.toArray⟩), .v (fun gh => .string ⟨(pa ++ [32]).toArray⟩), .pu, .ld 0 0, .v (fun gh => .string ⟨(pa ++ [32] ++ shS j).toArray⟩), .v (fun gh => .string ⟨(pa ++ [32] ++ shS j ++ [32]).toArray⟩), .pu, .ld 1 5, .v (fun gh => .pointer (some ⟨b29, o30 + 1 * 6, none⟩)), .lf 0 0, .pu, .ld 0 1, .v (fun gh => Vi ((shL j + 1 : Nat) : Int)), .v (fun gh => .string ⟨pb.toArray⟩), .v (fun gh => .string ⟨(bd).toArray⟩), .pu] [] (trivial) ?_ ?_
            · intro R hT hA hmono
              refine And.intro (t_ix hT hA b29 o30 args.length ca 0 (fun gh => .pointer (some ⟨b29, o30 + 0 * 6, none⟩)) (by first | omega | (simp; omega))) ?_
              refine And.intro (t_v hT hA hmono (k := 26) (args := (fun gh => #[.agg #[Vi y.op, Vi y.k, Vi y.n, .string y.s, .string y.nm, .slice Au nu cu], Vi ((shL j : Nat) : Int)])) (f := fun gh => .string ⟨pa.toArray⟩) (fun gh H sH fH lent => hI1 (shL j) _ (hyu.sees (S4.trans sH)) (lk.sees (S4.trans sH)) (by omega) (by rw [if_neg l3]))) ?_
              refine And.intro (t_p hT hA (fun gh => .string ⟨(pa ++ [32]).toArray⟩) (fun gh w => nX (op := .add) (t := 9) (x := (.tmp 25)) (y := (.const (.string ⟨#[32]⟩))) (yt := 9) (va := .string ⟨(pa).toArray⟩) (vb := .string ⟨([32]).toArray⟩) (by kernel_rfl) (by kernel_rfl) (by kernel_rfl) (by kernel_rfl) (oX (a := pa) (b := [32]) (c := pa ++ [32]) (by first | omega | (simp only [List.length_cons, List.length_nil]; omega) | (simp only [List.length_append, List.length_cons, List.length_nil]; omega)) (rfl)))) ?_
              refine And.intro (t_p hT hA (fun gh => .string ⟨(pa ++ [32] ++ shS j).toArray⟩) (fun gh w => nX (op := .add) (t := 9) (x := (.tmp 26)) (y := (.tmp 28)) (yt := 9) (va := .string ⟨(pa ++ [32]).toArray⟩) (vb := .string ⟨(shS j).toArray⟩) (by kernel_rfl) (by kernel_rfl) (by kernel_rfl) (by kernel_rfl) (oX (a := pa ++ [32]) (b := shS j) (c := pa ++ [32] ++ shS j) (by first | omega | (simp only [List.length_cons, List.length_nil]; omega) | (simp only [List.length_append, List.length_cons, List.length_nil]; omega)) (rfl)))) ?_
              refine And.intro (t_p hT hA (fun gh => .string ⟨(pa ++ [32] ++ shS j ++ [32]).toArray⟩) (fun gh w => nX (op := .add) (t := 9) (x := (.tmp 29)) (y := (.const (.string ⟨#[32]⟩))) (yt := 9) (va := .string ⟨(pa ++ [32] ++ shS j).toArray⟩) (vb := .string ⟨([32]).toArray⟩) (by kernel_rfl) (by kernel_rfl) (by kernel_rfl) (by kernel_rfl) (oX (a := pa ++ [32] ++ shS j) (b := [32]) (c := pa ++ [32] ++ shS j ++ [32]) (by first | omega | (simp only [List.length_cons, List.length_nil]; omega) | (simp only [List.length_append, List.length_cons, List.length_nil]; omega)) (rfl)))) ?_
              refine And.intro (t_ix hT hA b29 o30 args.length ca 1 (fun gh => .pointer (some ⟨b29, o30 + 1 * 6, none⟩)) (by first | omega | (simp; omega))) ?_
              refine And.intro (t_eq hT hA (fun gh => Vi ((shL j + 1 : Nat) : Int)) (fun gh => Vi (IntKind.i64.wrap (((shL j : Nat) : Int) + 1))) (fun gh => jJ (by omega) (by omega))) ?_
              refine And.intro (t_v hT hA hmono (k := 26) (args := (fun gh => #[.agg #[Vi y2.op, Vi y2.k, Vi y2.n, .string y2.s, .string y2.nm, .slice Au2 nu2 cu2], Vi ((shL j + 1 : Nat) : Int)])) (f := fun gh => .string ⟨pb.toArray⟩) (fun gh H sH fH lent => hI2 _ (hyu2.sees (S4.trans sH)) (lk.sees (S4.trans sH)) (by omega))) ?_
              refine And.intro (t_p hT hA (fun gh => .string ⟨(bd).toArray⟩) (fun gh w => nX (op := .add) (t := 9) (x := (.tmp 30)) (y := (.tmp 38)) (yt := 9) (va := .string ⟨(pa ++ [32] ++ shS j ++ [32]).toArray⟩) (vb := .string ⟨(pb).toArray⟩) (by kernel_rfl) (by kernel_rfl) (by kernel_rfl) (by kernel_rfl) (oX (a := pa ++ [32] ++ shS j ++ [32]) (b := pb) (c := bd) (by first | omega | (simp only [List.length_cons, List.length_nil]; omega) | (simp only [List.length_append, List.length_cons, List.length_nil]; omega)) (by rw [← hbd]; simp)))) ?_
              trivial
            rintro W33 S34 -
            exact g_meet (fun X q => ⟨W33, q _ _ _ _ ⟨rfl, by kernel_rfl⟩, S34⟩)
    rintro a w ⟨W5, hJ, S6⟩; refine pQ hJ ?_; clear hJ a w
    refine go0 11 [.b 0 1] [] ?_
    by_cases hlt : shL j < l
    · skip
      refine wQ (t := decide (((shL j : Nat) : Int) < (l : Int))) (decide_eq_true (by omega)) ?_
      refine go0 3 [] [] ?_
      refine qQ (.string ⟨([40] ++ bd).toArray⟩) (fun w => nX (op := .add) (t := 9) (x := (.const (.string ⟨#[40]⟩))) (y := (.tmp 111)) (yt := 9) (va := .string ⟨([40]).toArray⟩) (vb := .string ⟨(bd).toArray⟩) (by kernel_rfl) (by kernel_rfl) (by kernel_rfl) (by kernel_rfl) (oX (a := [40]) (b := bd) (c := [40] ++ bd) (by first | omega | (simp only [List.length_cons, List.length_nil]; omega) | (simp only [List.length_append, List.length_cons, List.length_nil]; omega)) (rfl))) ?_
      refine qQ (.string ⟨([40] ++ bd ++ [41]).toArray⟩) (fun w => nX (op := .add) (t := 9) (x := (.tmp 112)) (y := (.const (.string ⟨#[41]⟩))) (yt := 9) (va := .string ⟨([40] ++ bd).toArray⟩) (vb := .string ⟨([41]).toArray⟩) (by kernel_rfl) (by kernel_rfl) (by kernel_rfl) (by kernel_rfl) (oX (a := [40] ++ bd) (b := [41]) (c := [40] ++ bd ++ [41]) (by first | omega | (simp only [List.length_cons, List.length_nil]; omega) | (simp only [List.length_append, List.length_cons, List.length_nil]; omega)) (rfl))) ?_
      refine go0 5 [] [] ?_
      refine hQ.to [.string ⟨([40] ++ bd ++ [41]).toArray⟩] (fun H sH => ?_)
      exact congrArg (fun q : List UInt8 => Value.string ⟨q.toArray⟩) (by unfold brB; rw [if_pos (by omega)]; simp)
    · skip
      refine iQ (t := decide (((shL j : Nat) : Int) < (l : Int))) (decide_eq_false (by omega)) ?_
      refine go0 9 [] [] ?_
      refine hQ.to [.string ⟨bd.toArray⟩] (fun H sH => ?_)
      exact congrArg (fun q : List UInt8 => Value.string ⟨q.toArray⟩) (by unfold brB; rw [if_neg (by omega)])
theorem print_any (x:Ex) (v:Value) (h:Vw) (hx:IsArgs h x v) (hw:WfE x) (lk:Lk h) (hb:(szE x).1≤60) (hd:(szE x).2≤12) :
  C0 Tryz.prog 11 #[.agg #[.int .i64 x.op,.int .i64 x.k,.int .i64 x.n,.string x.s,.string x.nm,v]] h (fun r _=>r=.tuple #[.string ⟨(prt x 1).toArray⟩,.int .i64 0]):=by
 obtain ⟨A,na,ca,rfl⟩:=hx.slice
 have hC:=fun H q=>check_any x (.slice A na ca) H q hw (by omega)
 have hc:chkE x=0:=by unfold chkE; rw [if_neg (by omega),if_neg (by omega)]
 rw [hc] at hC
 have hP:=fun H q1 q2=>printed_any _ x (.slice A na ca) 1 H (Nat.le_refl _) q1 hw q2 hb (by omega)
 refine fQ Tryz.func11 (c:=Tryz.f11.body.getD .skip) (N:=12) ?_
 intro hbx hbad Q hQ
 refine go1 33 [.own,.b 0 0,.cl 25 #[.agg #[Vi x.op,Vi x.k,Vi x.n,.string x.s,.string x.nm,.slice A na ca]] (Vi 0),.b 0 0,.cl 26 #[.agg #[Vi x.op,Vi x.k,Vi x.n,.string x.s,.string x.nm,.slice A na ca],Vi 1] (.string ⟨(prt x 1).toArray⟩)] [] ?_ (ho:=(And.intro (fun H sH=>hC _ (hx.sees sH)) (And.intro (fun H sH=>hP _ (hx.sees sH) (lk.sees sH)) (trivial))))
 intro b1
 refine hQ.to [.string ⟨(prt x 1).toArray⟩,Vi 0] (fun H sH=>?_)
 exact rfl
end Go.Proofs.YthplkompdehjlaaGreatDoor

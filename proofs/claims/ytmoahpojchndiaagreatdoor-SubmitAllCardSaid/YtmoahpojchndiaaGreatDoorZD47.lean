/-
  Contracts of value.Show at known values.
-/
import Derived.Test.YtmoahpojchndiaaGreatDoorZD9
import Derived.Test.YtmoahpojchndiaaGreatDoorZD45
import Derived.Test.YtmoahpojchndiaaGreatDoorZD5
import Derived.Test.YtmoahpojchndiaaGreatDoorZD46
import Derived.Test.YtmoahpojchndiaaGreatDoorZD40
import Derived.Lib.LaidTab
import Derived.Lib.ItoaLen
import Derived.Lib.IndexBytes
import Derived.Test.YtmoahpojchndiaaGreatDoorZD44
set_option maxRecDepth 100000
namespace Go.Proofs.YtmoahpojchndiaaGreatDoor
open Go.RowKit Go.Sort
set_option linter.unusedVariables false
structure Lk (h:Vw):Prop where
 mx:∃ m,Cells h 1 0 [.int .i64 m]
 tl:0 < h.w.heap.size
 tn:0 ∉ h.bad
 tb : Lib.TabIs Tryz.prog h.w "internal/strconv.uint64pow10" .u64 Lib.pow10Tab
theorem gTab : Tryz.prog.globalNamed "internal/strconv.uint64pow10" = some 0 := by kernel_rfl
theorem Lk.sees {h h':Vw} (l:Lk h) (s:Sees h h'):Lk h':=by
 obtain ⟨⟨m,h1⟩,h2,h3,h4⟩:=l
 refine ⟨⟨m,h1.sees s⟩,Nat.lt_of_lt_of_le h2 s.size,fun k=>h3 (s.bad _ k h2),?_⟩
 have hb:=s.block _ h2 h3
 unfold Lib.TabIs World.var? at h4 ⊢
 rw [gTab] at h4 ⊢
 simp only [Option.bind_some] at h4 ⊢
 rw [hb]; exact h4
theorem Cells.one {h:Vw} {b:Nat} {v:Value} (c:Cells h b 0 [v]):h.w.cell? ⟨b,0,none⟩=some v:=by
 have:=c.lies 0 v rfl
 simpa using this
theorem C0.at_ {f:FuncId} {args:Array Value} {v:Value} {h:Vw} (hc:Calls Tryz.prog f args h.w fun e w'=>e=.returned v∧Below h.w.heap.size h.w w'):C0 Tryz.prog f args h (fun r _=>r=v):=by
 intro _ _ _ _
 refine hc.mono ?_
 rintro e w' ⟨rfl,hb⟩
 exact ⟨_,[],rfl,Low.of_below hb,(fun x hx=>by cases hx),rfl,rfl⟩
theorem below_gd (w:World) (k:Nat) (os:Array Obj):Below w.heap.size w (grow (w.drewN k) os):=by
 refine ⟨rfl,rfl,rfl,by simp [grow],fun j hj=>?_⟩
 show (w.heap++os)[j]?=_
 rw [Array.getElem?_append_left hj]
theorem c_itoa (n:Int) (h:Vw) (l:Lk h) (h0 : -9223372036854775808≤n) (h1:n≤9223372036854775807):C0 Tryz.prog 27 #[.int .i64 n] h (fun r _=>r=.string ⟨(Lib.itoa n).toArray⟩) :=
 C0.at_ ((Tryz.strconv_Itoa n h0 h1 h.w l.tb).mono fun e w' ⟨he,k,os,hw⟩=>⟨he,by subst hw; exact below_gd _ _ _⟩)
theorem c_fmt (b:Bool) (h:Vw):C0 Tryz.prog 28 #[.bool b] h (fun r _=>r=.string (if b then btrue else bfalse)) :=
 C0.at_ ((Tryz.strconv_FormatBool b h.w).mono fun e w' ⟨he,hw⟩=>⟨by rw [he]; cases b <;> rfl,by rw [hw]; exact Below.refl _ _⟩)
theorem c_rep (s old new:ByteArray) (h:Vw) (l:Lk h) (hs:s.size≤1000) (h1:1≤old.size) (h2:Lib.countB s old * new.size≤1000000):C0 Tryz.prog 29 #[.string s,.string old,.string new] h (fun r _=>r=.string ⟨(Lib.replaceAll s.data.toList old.data.toList new.data.toList).toArray⟩):=by
 obtain ⟨m,hm⟩:=l.mx
 exact C0.at_ ((Tryz.strings_ReplaceAll s old new m h.w (by omega) hm.one h1 (by omega)).mono fun e w' h=>h)
theorem sh_int (n:Int) (h:Vw) (l:Lk h) (hn:Lim n):C0 Tryz.prog 11 #[.agg #[.int .i64 1,.int .i64 n,.string ⟨#[]⟩]] h (fun r _=>r=.tuple #[.string ⟨(Lib.itoa n).toArray⟩,.int .i64 0]):=by
 have hc:=fun H=>check_okv ⟨1,n,⟨#[]⟩⟩ H (.inl (.inl ⟨rfl,hn,rfl⟩))
 have hi:=fun H q=>c_itoa n H q (by have:=hn.1; omega) (by have:=hn.2; omega)
 refine sQ Tryz.func11 (c:=Tryz.f11.body.getD .skip) (N:=37) ?_
 intro hbx hbad Q hQ
 refine go1 51 [.own,.b 0 0,.cl 26 #[.agg #[Vi 1,Vi n,Ve]] (Vi 0),.b 0 0,.b 0 1,.cl 27 #[Vi n] (.string ⟨(Lib.itoa n).toArray⟩)] [] ?_ (ho:=(And.intro (fun H sH=>hc _) (And.intro (fun H sH=>hi _ (l.sees sH)) (trivial))))
 intro b1
 refine hQ.to [.string ⟨(Lib.itoa n).toArray⟩,Vi 0] (fun H sH=>?_)
 exact rfl
theorem sh_bool (n:Int) (h:Vw) (hn:n=0∨n=1):C0 Tryz.prog 11 #[.agg #[.int .i64 2,.int .i64 n,.string ⟨#[]⟩]] h (fun r _=>r=.tuple #[.string (if n=1 then btrue else bfalse),.int .i64 0]):=by
 have hc:=fun H=>check_okv ⟨2,n,⟨#[]⟩⟩ H (.inl (.inr (.inl ⟨rfl,hn,rfl⟩)))
 have hi:=fun H=>c_fmt (n == 1) H
 refine sQ Tryz.func11 (c:=Tryz.f11.body.getD .skip) (N:=37) ?_
 intro hbx hbad Q hQ
 refine go1 59 [.own,.b 0 0,.cl 26 #[.agg #[Vi 2,Vi n,Ve]] (Vi 0),.b 0 0,.b 0 1,.cl 28 #[.bool (n == 1)] (.string (if (n == 1) then btrue else bfalse))] [] ?_ (ho:=(And.intro (fun H sH=>hc _) (And.intro (fun H sH=>hi _) (trivial))))
 intro b1
 refine hQ.to [.string (if (n == 1) then btrue else bfalse),Vi 0] (fun H sH=>?_)
 exact by rcases hn with rfl | rfl <;> rfl
theorem run_catb {t:TypeId} {a b:ByteArray} {c:List UInt8} {P:Program} {w:World} (h:a.size + b.size≤100000) (e:a.data.toList++b.data.toList=c):(binOp .add t (.string a) (.string b)).run P w=.ok (.string ⟨c.toArray⟩) w:=by
 rw [binOp_string_add,run_string_add_sum w a b (by omega)]
 subst e
 have e2:a++b=⟨(a.data.toList++b.data.toList).toArray⟩:=by
  apply ByteArray.ext
  simp
 rw [e2]
theorem esc_len (l:List UInt8):(escL l).length≤2 * l.length:=by
 induction l with
 | nil=>simp [escL]
 | cons c l ih =>
  show (escB c++escL l).length≤_
  have:(escB c).length≤2:=by unfold escB; split <;> simp
  rw [List.length_append,List.length_cons]; omega
theorem sh_text (s:ByteArray) (h:Vw) (l:Lk h) (hk:Vl.known ⟨3,0,s⟩):C0 Tryz.prog 11 #[.agg #[.int .i64 3,.int .i64 0,.string s]] h (fun r _=>r=.tuple #[.string ⟨(34 :: (escL s.data.toList++[34])).toArray⟩,.int .i64 0]):=by
 have hs:s.size≤40:=by
  rcases hk with ⟨q,-⟩ | ⟨q,-⟩ | ⟨-,-,q,-⟩
  ·cases q
  ·cases q
  ·exact q
 have hl:=toList_size s
 have hc:=fun H=>check_okv ⟨3,0,s⟩ H (.inl hk)
 have c1:∀ (x:ByteArray) (c:UInt8),Lib.countB x ⟨#[c]⟩≤x.size:=fun x c=>Lib.countB_le ⟨#[c]⟩ (by show 1≤1; omega) x.size x (Nat.le_refl _)
 have b1:=c1 s 92
 have e1:Lib.replaceAll s.data.toList [92] [92,92]=s.data.toList.flatMap (rp 92 [92,92]):=replaceAll_one _ _ _ (by decide)
 have l1:(s.data.toList.flatMap (rp 92 [92,92])).length≤2 * s.data.toList.length:=by
  generalize s.data.toList=m
  induction m with
  | nil=>simp
  | cons c m ih =>
   have:(rp 92 [92,92] c).length≤2:=by unfold rp; split <;> simp
   rw [List.flatMap_cons,List.length_append,List.length_cons]; omega
 have z1:(⟨(Lib.replaceAll s.data.toList [92] [92,92]).toArray⟩:ByteArray).size≤80:=by rw [e1]; show (List.toArray _).size≤80; rw [List.size_toArray]; omega
 have b2:=c1 ⟨(Lib.replaceAll s.data.toList [92] [92,92]).toArray⟩ 34
 have hr1:=fun H q=>c_rep s ⟨#[92]⟩ ⟨#[92,92]⟩ H q (by omega) (by decide) (by show _ * 2≤_; omega)
 have hr2:=fun H q=>c_rep ⟨(Lib.replaceAll s.data.toList [92] [92,92]).toArray⟩ ⟨#[34]⟩ ⟨#[92,34]⟩ H q (by omega) (by decide) (by show _ * 2≤_; omega)
 have e2:Lib.replaceAll (Lib.replaceAll s.data.toList [92] [92,92]) [34] [92,34]=escL s.data.toList:=rep_two _
 simp only [e2] at hr2
 have l2:=esc_len s.data.toList
 generalize escL s.data.toList=q at *
 generalize Lib.replaceAll s.data.toList [92] [92,92]=p at *
 refine sQ Tryz.func11 (c:=Tryz.f11.body.getD .skip) (N:=37) ?_
 intro hbx hbad Q hQ
 refine go1 59 [.own,.b 0 0,.cl 26 #[.agg #[Vi 3,Vi 0,.string s]] (Vi 0),.b 0 0,.b 0 2,.cl 29 #[.string s,.string ⟨#[92]⟩,.string ⟨#[92,92]⟩] (.string ⟨p.toArray⟩),.cl 29 #[.string ⟨p.toArray⟩,.string ⟨#[34]⟩,.string ⟨#[92,34]⟩] (.string ⟨q.toArray⟩)] [] ?_ (ho:=(And.intro (fun H sH=>hc _) (And.intro (fun H sH=>hr1 _ (l.sees sH)) (And.intro (fun H sH=>hr2 _ (l.sees sH)) (trivial)))))
 intro b1
 refine fV (.string ⟨(34 :: q).toArray⟩) (fun w=>xX (op:=.add) (t:=9) (x:=(.const (.string ⟨#[34]⟩))) (y:=(.tmp 28)) (yt:=9) (va:=.string ⟨#[34]⟩) (vb:=.string ⟨q.toArray⟩) (by kernel_rfl) (by kernel_rfl) (by kernel_rfl) (by kernel_rfl) (run_catb (by show 1 + Array.size _≤_; simp; omega) (by simp))) ?_
 refine fV (.string ⟨(34 :: (q++[34])).toArray⟩) (fun w=>xX (op:=.add) (t:=9) (x:=(.tmp 29)) (y:=(.const (.string ⟨#[34]⟩))) (yt:=9) (va:=.string ⟨(34 :: q).toArray⟩) (vb:=.string ⟨#[34]⟩) (by kernel_rfl) (by kernel_rfl) (by kernel_rfl) (by kernel_rfl) (run_catb (by show Array.size _ + 1≤_; simp; omega) (by simp))) ?_
 refine go0 7 [] [] ?_
 refine hQ.to [.string ⟨(34 :: (q++[34])).toArray⟩,Vi 0] (fun H sH=>?_)
 exact rfl
theorem sh_known (v:Vl) (h:Vw) (l:Lk h) (hv:v.known):C0 Tryz.prog 11 #[v.val] h (fun r _=>r=.tuple #[.string (showV v),.int .i64 0]):=by
 obtain ⟨k,n,s⟩:=v
 rcases hv with ⟨h1,h2,h3⟩ | ⟨h1,h2,h3⟩ | ⟨h1,h2,h3⟩
 ·simp only at h1 h3
  subst h1 h3
  exact sh_int n h l h2
 ·simp only at h1 h3
  subst h1 h3
  exact sh_bool n h h2
 ·simp only at h1 h2
  subst h1 h2
  exact sh_text s h l (.inr (.inr ⟨rfl,rfl,h3⟩))
theorem showV_size (v:Vl) (hv:v.known):(showV v).size≤100:=by
 obtain ⟨k,n,s⟩:=v
 rcases hv with ⟨h1,h2,h3⟩ | ⟨h1,h2,h3⟩ | ⟨h1,h2,h3,h4⟩
 ·simp only at h1
  subst h1
  have h2:Lim n:=h2
  have h5:=Lib.itoa_length_le n (by have:=h2.1; omega) (by have:=h2.2; omega)
  show (List.toArray (Lib.itoa n)).size≤100
  rw [List.size_toArray]; omega
 ·simp only at h1
  subst h1
  show (if n=1 then btrue else bfalse).size≤100
  split <;> decide
 ·simp only at h1 h3
  subst h1
  have e:=esc_len s.data.toList
  have e2:=toList_size s
  show (List.toArray (34 :: (escL s.data.toList++[34]))).size≤100
  rw [List.size_toArray,List.length_cons,List.length_append,List.length_cons,List.length_nil]
  omega
end Go.Proofs.YtmoahpojchndiaaGreatDoor
namespace Go.Proofs.YtmoahpojchndiaaGreatDoor
open Go.RowKit
set_option linter.unusedVariables false
def pgN (ps:List Pg) (path:List Int):List ByteArray:=path.flatMap fun q=>((ps[q.toNat]?).map fun p:Pg=>p.fields).getD []
def recE (fs:List Fd) (va:List Vl) (l:List ByteArray):Env:=l.map fun s=>(s,va.getD (fQ fs s).toNat zV)
def KnN (fs:List Fd) (va:List Vl) (l:List ByteArray):Prop:=∀ s∈l,(va.getD (fQ fs s).toNat zV).k≤3
theorem recE_snoc (fs:List Fd) (va:List Vl) (l:List ByteArray) (s:ByteArray):recE fs va (l++[s])=recE fs va l++[(s,va.getD (fQ fs s).toNat zV)]:=by unfold recE; rw [List.map_append]; rfl
theorem pgN_snoc {ps:List Pg} {path:List Int} {q:Nat} {p:Pg} (hp:ps[q]?=some p):pgN ps (path++[(q:Int)])=pgN ps path++p.fields:=by
 unfold pgN
 rw [List.flatMap_append,List.flatMap_cons,List.flatMap_nil,List.append_nil,Int.toNat_natCast,hp]
 rfl
theorem pgN_len {ps:List Pg} (hf:∀ p∈ps,p.fields.length≤100):∀ path:List Int,(pgN ps path).length≤100 * path.length
 | []=>Nat.le_refl 0
 | q :: path=>by
  have ih:=pgN_len hf path
  have e:pgN ps (q :: path)=(((ps[q.toNat]?).map fun p:Pg=>p.fields).getD [])++pgN ps path:=List.flatMap_cons
  rw [e,List.length_append,List.length_cons]
  cases h:ps[q.toNat]? with
  | none=>show 0 + _≤_; omega
  | some p =>
   have:=hf p (List.mem_of_getElem? h)
   show p.fields.length + _≤_
   omega
theorem path_at {path:List Int} {m k:Nat} {x:Int} (pk:PathOk (path++[(m:Int)]) m) (hx:path[k]?=some x):∃ q:Nat,x=(q:Int)∧q < m:=by
 have hm:=List.mem_of_getElem? hx
 have h0:=pk.lo x (List.mem_append_left _ hm)
 have h1:=(List.pairwise_append.1 pk.rise).2.2 x hm (m:Int) (by simp)
 exact ⟨x.toNat,(Int.toNat_of_nonneg h0).symm,by omega⟩
def RecR (t m:Nat) (fs:List Fd) (va:List Vl) (l:List ByteArray) (r:Value) (h:Vw):Prop:=∃ (e:Int) (Ar:Option Addr) (cr:Nat) (rows:Env),r=.tuple #[.slice Ar rows.length cr,.int .i64 e]∧RS h 7 (.slice Ar rows.length cr) (yK rows)∧((e=11∧rows=[]∧(t=m→¬ KnN fs va l))∨(e=0∧t=m∧KnN fs va l∧rows=recE fs va l))
theorem recR_none {t m:Nat} {fs:List Fd} {va:List Vl} {l:List ByteArray} {h:Vw} (q:t=m→¬ KnN fs va l):RecR t m fs va l (.tuple #[.slice none 0 0,.int .i64 11]) h:=⟨11,none,0,[],rfl,RS.nil _ _,.inl ⟨rfl,rfl,q⟩⟩
theorem recR_some {t m:Nat} {fs:List Fd} {va:List Vl} {l ol:List ByteArray} {h:Vw} {Ar:Option Addr} {cr:Nat} (ht:t=m) (hk:KnN fs va ol) (e:l=ol) (hr:RS h 7 (.slice Ar ol.length cr) (yK (recE fs va ol))):RecR t m fs va l (.tuple #[.slice Ar ol.length cr,.int .i64 0]) h:=by
 have hl:(recE fs va ol).length=ol.length:=by unfold recE; rw [List.length_map]
 rw [← hl] at hr ⊢
 exact ⟨0,Ar,cr,_,rfl,hr,.inr ⟨rfl,ht,by rw [e]; exact hk,by rw [e]⟩⟩
set_option maxHeartbeats 1000000 in
theorem record_any (f:Fm) (ρ:List Int) (lv:Nat→Nat) (A:Option Addr) (n c:Nat) (B:Option Addr) (m d:Nat) (va:List Vl) (A1:Option Addr) (c1:Nat) (path:List Int) (A2:Option Addr) (c2:Nat) (t:Nat) (h:Vw) (hok:OkFm f ρ lv) (hf:IsForm h (.slice A n c) (.slice B m d) f) (hn:n=f.fields.length) (hm:m=f.pages.length)
  (hv:RS h 3 (.slice A1 n c1) (qY va)) (la:va.length=n) (ov:∀ x∈va,OkV x) (hp:RS h 1 (.slice A2 path.length c2) (sX path)) (lp:path.length≤90) (pk:PathOk (path++[(t:Int)]) m) :
  C0 Tryz.prog 6 #[.agg #[.slice A n c,.slice B m d],.slice A1 n c1,.agg #[.int .i64 (t:Int),.slice A2 path.length c2,.bool ((t:Int) == (m:Int))]] h (fun r h'=>RecR t m f.fields va (pgN f.pages path) r h'):=by
 have hC:=fun H q1 q2 q3=>navCheck_any f ρ lv A n c B m d va A1 c1 path A2 c2 (t:Int) H hok q1 hn hm q2 la ov q3 (by omega) pk
 have few:=hok.fields.few
 have hF:=fun H s i q hp=>find_yes f.fields (.slice A n c) s i H q (by omega) hp
 have hhere:=hok.pages.here
 have hfl:=hok.pages.fl
 have hpl:=fun k=>pgN_len hfl (path.take k)
 obtain ⟨us,ws,B2,d2,e2,-,hpr,hps,hpa,-,-⟩:=pgs_open hf.pages
 simp only [Value.slice.injEq] at e2
 obtain ⟨rfl,-,rfl⟩:=e2
 rw [← hm] at hpr
 have hz:pgN f.pages (path.take 0)=[]:=rfl
 have htk:path.take path.length=path:=List.take_length
 generalize hnp:path.length=np at *
 refine sQ Tryz.func6 (c:=Tryz.f6.body.getD .skip) (N:=69) ?_
 intro hbx hbad Q hQ
 refine go2 35 [.own,.own,.b 1 0,.b 0 0,.cl 19 #[.agg #[.slice A n c,.slice B m d],.slice A1 n c1,.agg #[Vi (t:Int),.slice A2 np c2,.bool ((t:Int) == (m:Int))]] (Vi 0),.b 0 2] [] ?_ (ho:=(And.intro (fun H sH=>hC _ (hf.sees sH) (hv.sees sH) (hp.sees sH)) (trivial)))
 intro b1 b2
 by_cases ht:t=m
 ·have pk:=pk
  rw [ht] at pk
  refine uQ (t := !((t:Int) == (m:Int))) ((by rw [ht,beq_self_eq_true]; rfl)) ?_
  refine go0 17 [.b 0 1] [] ?_
  refine dV 56 7 ?_
  refine zQ [0,1,0,1,1,1,1] [.block 0,.seq [1,1,1,1,1]] (fun (k:Nat) X=>∃ (W3:Vw) (v:Value) (ol:List ByteArray),X W3 [(1,.slice A1 n c1),(3,Vp b1),(27,.slice A2 np c2),(28,Vi (np:Int)),(29,Vi (k:Int)),(9,v)] [.row v 56 7 (yK (recE f.fields va ol)),.box b2 [Vi (t:Int),.slice A2 np c2,.bool ((t:Int) == (m:Int))],.box b1 [.slice A n c,.slice B m d]] []∧Sees h W3∧(k≤np)∧(pgN f.pages (path.take k)=ol)∧(KnN f.fields va ol)) (fun k=>np - k) (0) (fun X q=>⟨h,(Vz),[],q _ _ _ _ ⟨rfl,by kernel_rfl⟩,Sees.refl _,Nat.zero_le _,hz,fun _ h=>by cases h⟩) ?_
  rintro k a w ⟨W3,v,ol,hJ,S4,hk,ho,hkn⟩; refine eV hJ ?_; clear hJ a w
  refine go0 6 [] [] ?_
  rcases (by omega:k < np∨k=np) with hlt | hke
  ·obtain ⟨x,hx⟩:∃ x,path[k]?=some x:=⟨_,List.getElem?_eq_getElem (by omega)⟩
   obtain ⟨q,rfl,hqm⟩:=path_at pk hx
   have hxr:=rk_row hx
   obtain ⟨p,hpq⟩:∃ p,f.pages[q]?=some p:=⟨_,List.getElem?_eq_getElem (by omega)⟩
   obtain ⟨Au,cu,Bu,mu,du,hprow,hrs,-⟩:=pg_at hps hpa hpq
   have hpf:=hfl p (List.mem_of_getElem? hpq)
   have hph:=hhere p (List.mem_of_getElem? hpq)
   have hnx:pgN f.pages (path.take (k + 1))=ol++p.fields:=by rw [nY path k _ hx,pgN_snoc hpq,ho]
   have hll:=hpl k
   rw [ho,List.length_take] at hll
   have hst:(lY p.fields).length=p.fields.length:=List.length_map _
   generalize hpn:p.fields.length=nf at *
   refine kV (t:=decide ((k:Int) < (np:Int))) (decide_eq_true (by omega)) ?_
   refine go0 6 [] [] ?_
   obtain ⟨b5,o6,rfl,-,c7⟩:=RS.row hp (hxr)
   refine tQ (c7.sees S4) ?_
   refine go0 10 [.ix b5 o6 np c2 k,.f 0 0,.b 2 1] [] ?_ (ho:=(And.intro (by first | omega | (simp; omega)) (trivial)))
   obtain ⟨b8,o9,rfl,-,c10⟩:=RS.row hpr (hprow)
   refine tQ (c10.sees S4) ?_
   refine go0 8 [.ix b8 o9 m d q,.f 0 1] [] ?_ (ho:=(And.intro (by first | omega | (simp; omega)) (trivial)))
   refine zQ [0,1,1,0,0,1,1,0,0,1,0,1,1,1,1] [.block 2,.block 1,.seq [1,1,1,0,0,1,0,1,1,1,1]] (fun (j:Nat) X=>∃ (W11:Vw) (v:Value) (ml:List ByteArray),X W11 [(1,.slice A1 n c1),(3,Vp b1),(27,.slice (some ⟨b5,o6,none⟩) np c2),(28,Vi (np:Int)),(29,Vi (k:Int)),(38,.slice Au nf cu),(39,Vi (nf:Int)),(40,Vi (j:Int)),(9,v)] [.row v 56 7 (yK (recE f.fields va ml)),.box b2 [Vi (t:Int),.slice (some ⟨b5,o6,none⟩) np c2,.bool ((t:Int) == (m:Int))],.box b1 [.slice A n c,.slice (some ⟨b8,o9,none⟩) m d]] [(b8,o9 + q * 8,[.string p.name,.slice Au nf cu,Vi p.skip.op,Vi p.skip.k,Vi p.skip.n,.string p.skip.s,.string p.skip.nm,.slice Bu mu du]),(b5,o6 + k * 1,[Vi (q:Int)])]∧Sees W3 W11∧(j≤nf)∧(ol++p.fields.take j=ml)∧(KnN f.fields va ml)) (fun j=>nf - j) (0) (fun X q=>⟨W3,v,ol,q _ _ _ _ ⟨rfl,by kernel_rfl⟩,Sees.refl _,Nat.zero_le _,by simp,hkn⟩) ?_
   rintro j a w ⟨W11,v,ml,hJ,S12,hj,hml,hkm⟩; refine eV hJ ?_; clear hJ a w
   refine go0 6 [] [] ?_
   rcases (by omega:j < nf∨j=nf) with hjl | hje
   ·obtain ⟨s,hs⟩:∃ s,p.fields[j]?=some s:=⟨_,List.getElem?_eq_getElem (by omega)⟩
    have hsr:=str_row hs
    have hs0:=hph s (List.mem_of_getElem? hs)
    obtain ⟨i,hi⟩:∃ i:Nat,fQ f.fields s=(i:Int):=⟨_,(Int.toNat_of_nonneg hs0).symm⟩
    have hil:i < f.fields.length:=by
     rcases findF_lt f.fields s with g | ⟨i',f',g1,g2,-⟩
     ·omega
     ·have:=(List.getElem?_eq_some_iff.1 g2).1
      omega
    obtain ⟨x,hxv⟩:∃ x,va[i]?=some x:=⟨_,List.getElem?_eq_getElem (by omega)⟩
    have hvr:(qY va)[i]?=some [.int .i64 x.k,.int .i64 x.n,.string x.s]:=by rw [List.getElem?_map,hxv]; rfl
    have hgd:va.getD (fQ f.fields s).toNat zV=x:=by rw [hi,Int.toNat_natCast,List.getD_eq_getElem?_getD,hxv]; rfl
    have hfi:=fun H g=>hF H s i g hi
    have hkd:=fun H=>known_dec x (ov x (List.mem_of_getElem? hxv)) H
    have hsn:ol++p.fields.take (j + 1)=ml++[s]:=by rw [nY p.fields j s hs,← List.append_assoc,hml]
    have hrn:=recE_snoc f.fields va ml s
    rw [hgd] at hrn
    have hmll:ml.length≤ol.length + j:=by rw [← hml,List.length_append,List.length_take]; omega
    have hrl:(recE f.fields va ml).length=ml.length:=by unfold recE; rw [List.length_map]
    refine kV (t:=decide ((j:Int) < (nf:Int))) (decide_eq_true (by omega)) ?_
    refine go0 6 [] [] ?_
    obtain ⟨b13,o14,rfl,-,c15⟩:=RS.row hrs (hsr)
    refine tQ (c15.sees (S4.trans S12)) ?_
    refine go0 23 [.ix b13 o14 nf cu j,.f 0 0,.b 2 0,.cl 20 #[.slice A n c,.string s] (.tuple #[Vi (i:Int),Vi 0])] [] ?_ (ho:=(And.intro (by first | omega | (simp; omega)) (And.intro (fun H sH=>hfi _ ((hf.sees (S4.trans (S12.trans sH)))).fields) (trivial))))
    obtain ⟨b16,o17,rfl,-,c18⟩:=RS.row hv (hvr)
    refine tQ (c18.sees (S4.trans S12)) ?_
    refine go0 2 [.ix b16 o17 n c1 i,.f 0 0] [] ?_ (ho:=(And.intro (by first | omega | (simp; omega)) (trivial)))
    by_cases hk3:x.k≤3
    ·have hkd:∀ H,C0 Tryz.prog 21 #[.agg #[.int .i64 x.k,.int .i64 x.n,.string x.s]] H (fun r _=>r=.bool true):=fun H=>by have:=hkd H; rw [decide_eq_true hk3] at this; exact this
     refine go0 12 [.cl 21 #[.agg #[Vi x.k,Vi x.n,.string x.s]] (.bool true)] [] ?_ (ho:=(And.intro (fun H sH=>hkd _) (trivial)))
     have c19:=RS.cell hv (hvr)
     refine tQ (c19.sees (S4.trans S12)) ?_
     refine pV 4 [.ix b16 o17 n c1 i,.f 0 0,.fix] [] ?_ (ho:=(And.intro (by first | omega | (simp; omega)) (trivial)))
     intro b20 W21 S22
     refine goa0 9 [.ap 0 0 (yK (recE f.fields va ml)) [[.string s,Vi 0,Vi 0,Ve,Vi x.k,Vi x.n,.string x.s]]] [(66,Vi (IntKind.i64.wrap ((j:Int) + 1)),Vi ((j:Int) + 1))] ?_ (ho:=(And.intro (by constructor <;> (simp; omega)) (trivial))) (hc:=(And.intro (jJ (by omega) (by omega)) (trivial)))
     intro v65 W23 S24
     refine xQ [(1,.slice (some ⟨b16,o17,none⟩) n c1),(3,Vp b1),(27,.slice (some ⟨b5,o6,none⟩) np c2),(28,Vi (np:Int)),(29,Vi (k:Int)),(38,.slice (some ⟨b13,o14,none⟩) nf cu),(39,Vi (nf:Int)),(9,.slice (sA v65) (sN v65) (sC v65)),(40,Vi ((j:Int) + 1))] [.row (.slice (sA v65) (sN v65) (sC v65)) 56 7 ((yK (recE f.fields va ml))++[[.string s,Vi 0,Vi 0,Ve,Vi x.k,Vi x.n,.string x.s]]),.box b2 [Vi (t:Int),.slice (some ⟨b5,o6,none⟩) np c2,.bool ((t:Int) == (m:Int))],.box b1 [.slice A n c,.slice (some ⟨b8,o9,none⟩) m d]] [(b8,o9 + q * 8,[.string p.name,.slice (some ⟨b13,o14,none⟩) nf cu,Vi p.skip.op,Vi p.skip.k,Vi p.skip.n,.string p.skip.s,.string p.skip.nm,.slice Bu mu du]),(b5,o6 + k * 1,[Vi (q:Int)])] ?_
     exact jV (j + 1) (fun X q=>⟨W23,.slice (sA v65) (sN v65) (sC v65),ml++[s],q _ _ _ _ (fY (by rw [hrn]; simp [yK])),(S12.trans (S22.trans S24)),by omega,hsn,(fun y hy=>(List.mem_append.1 hy).elim (hkm y) fun g=>by rw [List.mem_singleton.1 g,hgd]; exact hk3)⟩) (by omega)
    ·skip
     have hkd:∀ H,C0 Tryz.prog 21 #[.agg #[.int .i64 x.k,.int .i64 x.n,.string x.s]] H (fun r _=>r=.bool false):=fun H=>by have:=hkd H; rw [decide_eq_false hk3] at this; exact this
     have hno:¬ KnN f.fields va (pgN f.pages path):=fun g=>hk3 (by
      rw [← hgd]
      refine g s ?_
      unfold pgN
      refine List.mem_flatMap.2 ⟨(q:Int),List.mem_of_getElem? hx,?_⟩
      rw [Int.toNat_natCast,hpq]
      exact List.mem_of_getElem? hs)
     refine go0 15 [.cl 21 #[.agg #[Vi x.k,Vi x.n,.string x.s]] (.bool false)] [] ?_ (ho:=(And.intro (fun H sH=>hkd _) (trivial)))
     refine yQ ?_
     refine go0 3 [] [] ?_
     refine yQ ?_
     refine go0 2 [] [] ?_
     refine g_drop 0 ?_
     refine hQ.to [Vz,Vi 11] (fun H sH=>?_)
     exact recR_none fun _=>hno
   ·skip
    have hfin:pgN f.pages (path.take (k + 1))=ml:=by rw [hnx,← hml,hje,← hpn,List.take_length]
    refine uQ (t:=decide ((j:Int) < (nf:Int))) (decide_eq_false (by omega)) ?_
    refine go0 2 [] [] ?_
    refine yQ ?_
    refine go0 7 [] [(67,Vi (IntKind.i64.wrap ((k:Int) + 1)),Vi ((k:Int) + 1))] ?_ (hc:=(And.intro (jJ (by omega) (by omega)) (trivial)))
    exact jV (k + 1) (fun X q=>⟨W11,v,ml,q _ _ _ _ ⟨rfl,by kernel_rfl⟩,(S4.trans S12),by omega,hfin,hkm⟩) (by omega)
  ·skip
   rw [hke,htk] at ho
   have hrl:(recE f.fields va ol).length=ol.length:=by unfold recE; rw [List.length_map]
   refine uQ (t:=decide ((k:Int) < (np:Int))) (decide_eq_false (by omega)) ?_
   refine go0 2 [] [] ?_
   refine yQ ?_
   refine go0 10 [] [] ?_
   refine vQ 0 (v:=v) (e:=56) (kk:=7) (l:=yK (recE f.fields va ol)) ?_; intro Ar cr hE_v hc_v hm_v
   rw [show (yK (recE f.fields va ol)).length=ol.length from by first | omega | (simp; done) | (simp; omega)] at hE_v hc_v
   rw [hE_v]
   refine xQ [(6,.slice Ar ol.length cr),(7,Vi 0)] [.row (.slice Ar ol.length cr) 56 7 (yK (recE f.fields va ol)),.box b2 [Vi (t:Int),.slice A2 np c2,.bool ((t:Int) == (m:Int))],.box b1 [.slice A n c,.slice B m d]] [] ?_
   refine hQ.toJ [.slice Ar ol.length cr,Vi 0] [] (fun a w hJ=>?_)
   have fr:=hJ.j.rowOut0 (v:=.slice Ar ol.length cr) (e:=56) (k:=7) (l:=yK (recE f.fields va ol)) 0 (by kernel_rfl) rfl
   exact recR_some ht hkn ho fr
 ·skip
  refine kV (t := !((t:Int) == (m:Int))) ((by rw [beq_eq_false_iff_ne.2 (by omega)]; rfl)) ?_
  refine go0 8 [] [] ?_
  refine hQ.to [Vz,Vi 11] (fun H sH=>?_)
  exact recR_none fun q=>absurd q ht
def SubC (f:Fm) (va:List Vl) (A:Option Addr) (n c:Nat) (B:Option Addr) (m d:Nat) (A1:Option Addr) (c1:Nat) (H:Vw):Prop:=IsForm H (.slice A n c) (.slice B m d) f∧RS H 3 (.slice A1 n c1) (qY va)
theorem SubC.sees {f:Fm} {va:List Vl} {A:Option Addr} {n c:Nat} {B:Option Addr} {m d:Nat} {A1:Option Addr} {c1:Nat} {h h':Vw} (k:SubC f va A n c B m d A1 c1 h) (s:Sees h h'):SubC f va A n c B m d A1 c1 h':=⟨k.1.sees s,k.2.sees s⟩
def NxR (m t:Nat) (path:List Int) (ps:List Pg) (fs:List Fd) (va:List Vl) (r:Value) (h:Vw):Prop:=∃ (e:Int) (a:Nat) (u:Value) (b:Bool),r=.tuple #[.agg #[.int .i64 (a:Int),.slice (sA u) (sN u) (sC u),.bool b],.int .i64 e] ∧
 ((e=0∧b=((a:Int) == (m:Int))∧t < a∧a≤m∧RS h 1 (.slice (sA u) (sN u) (sC u)) (sX (path++[(t:Int)]))∧PathOk ((path++[(t:Int)])++[(a:Int)]) m∧∃ p,ps[t]?=some p∧wV fs va p.fields=[])∨(e=11∧t < m)∨(e=13∧t=m))
theorem PathOk.next {l:List Int} {m:Nat} {t a:Nat} (h:PathOk (l++[(t:Int)]) m) (hta:t < a) (ham:a≤m):PathOk ((l++[(t:Int)])++[(a:Int)]) m:=by
 refine ⟨List.pairwise_append.2 ⟨h.rise,List.pairwise_singleton _ _,fun x hx y hy=>?_⟩,fun x hx=>?_,fun x hx=>?_⟩
 ·rw [List.mem_singleton.1 hy]
  rcases List.mem_append.1 hx with q | q
  ·have:=(List.pairwise_append.1 h.rise).2.2 x q (t:Int) (by simp)
   omega
  ·rw [List.mem_singleton.1 q]; omega
 ·rcases List.mem_append.1 hx with q | q
  ·exact h.lo x q
  ·rw [List.mem_singleton.1 q]; omega
 ·rcases List.mem_append.1 hx with q | q
  ·exact h.hi x q
  ·rw [List.mem_singleton.1 q]; omega
theorem next_u (f:Fm) (ρ:List Int) (lv:Nat→Nat) (A:Option Addr) (n c:Nat) (B:Option Addr) (m d:Nat) (va:List Vl) (A1:Option Addr) (c1:Nat) (path:List Int) (w:Value) (t:Nat) (h:Vw) (hok:OkFm f ρ lv) (hn:n=f.fields.length) (hm:m=f.pages.length) (la:va.length=n) (ov:∀ x∈va,OkV x) (hk:SubC f va A n c B m d A1 c1 h) (hp:RS h 1 (.slice (sA w) (sN w) (sC w)) (sX path)) (lp:path.length≤90) (pk:PathOk (path++[(t:Int)]) m) :
  C0 Tryz.prog 7 #[.agg #[.slice A n c,.slice B m d],.slice A1 n c1,.agg #[.int .i64 (t:Int),.slice (sA w) (sN w) (sC w),.bool ((t:Int) == (m:Int))]] h (fun r h'=>NxR m t path f.pages f.fields va r h'):=by
 obtain ⟨A2,c2,e,-⟩:=hp.form
 rw [List.length_map] at e
 rw [e] at hp ⊢
 refine (next_x f ρ lv A n c B m d va A1 c1 path A2 c2 t h hok hk.1 hn hm hk.2 la ov hp lp pk).mono fun r h' _=>?_
 rintro (⟨q,rfl⟩ | ⟨p,hpt,⟨a,u,rfl,h1,h2,h3,h4,-,-⟩ | ⟨rfl,-⟩⟩)
 ·exact ⟨13,0,.slice none 0 0,false,rfl,.inr (.inr ⟨rfl,q⟩)⟩
 ·exact ⟨0,a,u,_,rfl,.inl ⟨rfl,rfl,h2,h3,h4,pk.next h2 h3,p,hpt,h1⟩⟩
 ·exact ⟨11,0,.slice none 0 0,false,rfl,.inr (.inl ⟨rfl,by rw [hm]; exact (List.getElem?_eq_some_iff.1 hpt).1⟩)⟩
theorem record_u (f:Fm) (ρ:List Int) (lv:Nat→Nat) (A:Option Addr) (n c:Nat) (B:Option Addr) (m d:Nat) (va:List Vl) (A1:Option Addr) (c1:Nat) (path:List Int) (w:Value) (t:Nat) (h:Vw) (hok:OkFm f ρ lv) (hn:n=f.fields.length) (hm:m=f.pages.length) (la:va.length=n) (ov:∀ x∈va,OkV x) (hk:SubC f va A n c B m d A1 c1 h) (hp:RS h 1 (.slice (sA w) (sN w) (sC w)) (sX path)) (lp:path.length≤90) (pk:PathOk (path++[(t:Int)]) m) :
  C0 Tryz.prog 6 #[.agg #[.slice A n c,.slice B m d],.slice A1 n c1,.agg #[.int .i64 (t:Int),.slice (sA w) (sN w) (sC w),.bool ((t:Int) == (m:Int))]] h (fun r h'=>RecR t m f.fields va (pgN f.pages path) r h'):=by
 obtain ⟨A2,c2,e,-⟩:=hp.form
 rw [List.length_map] at e
 rw [e] at hp ⊢
 exact record_any f ρ lv A n c B m d va A1 c1 path A2 c2 t h hok hk.1 hn hm hk.2 la ov hp lp pk
def colB:ByteArray:=⟨#[58,32]⟩
def txtE (p:ByteArray × Vl):ByteArray:=p.1++colB++showV p.2
set_option maxHeartbeats 1000000 in
theorem text_any (l:Env) (v:Value) (h:Vw) (hl:Lk h) (hr:RS h 7 v (yK l)) (hn:l.length≤10000) (hk:∀ p∈l,p.2.known∧p.1.size≤1000) :
  C0 Tryz.prog 8 #[v] h (fun r h'=>∃ u,r=.tuple #[.slice (sA u) (sN u) (sC u),.int .i64 0]∧RS h' 1 (.slice (sA u) (sN u) (sC u)) (lY (l.map txtE))):=by
 obtain ⟨A,c,rfl,-,-,-⟩:=hr.form
 rw [List.length_map] at *
 have hsw:=fun (x:Vl) (q:x.known) H g=>sh_known x H g q
 have hsz:=fun (x:Vl) (q:x.known)=>showV_size x q
 have hz:([]:List ByteArray)=(l.take 0).map txtE:=rfl
 have htk:l.take l.length=l:=List.take_length
 generalize hL:l.length=len at *
 refine sQ Tryz.func8 (c:=Tryz.f8.body.getD .skip) (N:=34) ?_
 intro hbx hbad Q hQ
 refine go0 20 [] [] ?_
 refine dV 9 1 ?_
 refine zQ [0,1,0,1,1] [.block 0,.seq [1,1,1]] (fun (k:Nat) X=>∃ (W1:Vw) (v:Value) (ol:List ByteArray),X W1 [(9,.slice A len c),(10,Vi (len:Int)),(11,Vi (k:Int)),(4,v)] [.row v 9 1 (lY ol)] []∧Sees h W1∧(k≤len)∧(ol=(l.take k).map txtE)) (fun k=>len - k) (0) (fun X q=>⟨h,(Vz),[],q _ _ _ _ ⟨rfl,by kernel_rfl⟩,Sees.refl _,Nat.zero_le _,hz⟩) ?_
 rintro k a w ⟨W1,v,ol,hJ,S2,hk0,ho⟩; refine eV hJ ?_; clear hJ a w
 refine go0 6 [] [] ?_
 rcases (by omega:k < len∨k=len) with hlt | hke
 ·obtain ⟨⟨s,x⟩,hx⟩:∃ x,l[k]?=some x:=⟨_,List.getElem?_eq_getElem (by omega)⟩
  have hrow:(yK l)[k]?=some [.string s,.int .i64 0,.int .i64 0,.string ⟨#[]⟩,.int .i64 x.k,.int .i64 x.n,.string x.s]:=by rw [List.getElem?_map,hx]; rfl
  obtain ⟨hx1,hx2⟩:=hk _ (List.mem_of_getElem? hx)
  have hsx:=hsw x hx1
  have hss:=hsz x hx1
  have hsn:ol++[txtE (s,x)]=(l.take (k + 1)).map txtE:=by rw [nY l k _ hx,List.map_append,ho]; rfl
  have hol:ol.length≤k:=by rw [ho,List.length_map,List.length_take]; omega
  have hrl:(lY ol).length=ol.length:=List.length_map _
  have htx:s++colB++showV x=txtE (s,x):=rfl
  have hc2:colB.size=2:=rfl
  generalize showV x=sx at *
  have hx2:s.size≤1000:=hx2
  have hc3:(⟨#[58,32]⟩:ByteArray)=colB:=rfl
  have hc4:(s++colB).size=s.size + 2:=by rw [ByteArray.size_append]; rfl
  refine kV (t:=decide ((k:Int) < (len:Int))) (decide_eq_true (by omega)) ?_
  refine go0 6 [] [] ?_
  obtain ⟨b3,o4,rfl,-,c5⟩:=RS.row hr (hrow)
  refine tQ (c5.sees S2) ?_
  refine go1 10 [.ix b3 o4 len c k,.f 0 0,.own,.b 0 0,.b 0 4] [] ?_ (ho:=(And.intro (by first | omega | (simp; omega)) (trivial)))
  intro b6
  refine go0 22 [.cl 11 #[.agg #[Vi x.k,Vi x.n,.string x.s]] (.tuple #[.string sx,Vi 0]),.b 0 0] [] ?_ (ho:=(And.intro (fun H sH=>hsx _ (hl.sees (S2.trans sH))) (trivial)))
  refine fV (.string (s++colB)) (fun w=>xX (op:=.add) (t:=9) (x:=(.tmp 26)) (y:=(.const (.string ⟨#[58,32]⟩))) (yt:=9) (va:=.string s) (vb:=.string ⟨#[58,32]⟩) (by kernel_rfl) (by kernel_rfl) (by kernel_rfl) (by kernel_rfl) (by rw [binOp_string_add,run_string_add_sum _ _ _ (by rw [hc3,hc2]; omega)]; rfl)) ?_
  refine go0 1 [] [] ?_
  refine fV (.string (txtE (s,x))) (fun w=>xX (op:=.add) (t:=9) (x:=(.tmp 27)) (y:=(.tmp 28)) (yt:=9) (va:=.string (s++colB)) (vb:=.string sx) (by kernel_rfl) (by kernel_rfl) (by kernel_rfl) (by kernel_rfl) (by rw [binOp_string_add,run_string_add_sum _ _ _ (by rw [hc4]; omega),htx])) ?_
  refine pV 1 [.fix] [] ?_
  intro b7 W8 S9
  refine goa0 9 [.ap 1 0 (lY ol) [[.string (txtE (s,x))]]] [(32,Vi (IntKind.i64.wrap ((k:Int) + 1)),Vi ((k:Int) + 1))] ?_ (ho:=(And.intro (by constructor <;> (simp; omega)) (trivial))) (hc:=(And.intro (jJ (by omega) (by omega)) (trivial)))
  intro v31 W10 S11
  refine xQ [(9,.slice (some ⟨b3,o4,none⟩) len c),(10,Vi (len:Int)),(4,.slice (sA v31) (sN v31) (sC v31)),(11,Vi ((k:Int) + 1))] [.row (.slice (sA v31) (sN v31) (sC v31)) 9 1 ((lY ol)++[[.string (txtE (s,x))]])] [] ?_
  exact jV (k + 1) (fun X q=>⟨W10,.slice (sA v31) (sN v31) (sC v31),ol++[txtE (s,x)],q _ _ _ _ (fY (by simp [lY])),(S2.trans (S9.trans S11)),by omega,hsn⟩) (by omega)
 ·skip
  rw [hke,htk] at ho
  have hrl:(lY ol).length=ol.length:=List.length_map _
  refine vQ 0 (v:=v) (e:=9) (kk:=1) (l:=lY ol) ?_; intro Ar cr hE_v hc_v hm_v
  rw [show (lY ol).length=ol.length from by first | omega | (simp; done) | (simp; omega)] at hE_v hc_v
  rw [hE_v]
  refine uQ (t:=decide ((k:Int) < (len:Int))) (decide_eq_false (by omega)) ?_
  refine go0 2 [] [] ?_
  refine yQ ?_
  refine go0 10 [] [] ?_
  refine xQ [(2,.slice Ar ol.length cr),(3,Vi 0)] [.row (.slice Ar ol.length cr) 9 1 (lY ol)] [] ?_
  refine hQ.toJ [.slice Ar ol.length cr,Vi 0] [] (fun a w hJ=>?_)
  have fr:=hJ.j.rowOut0 (v:=.slice Ar ol.length cr) (e:=9) (k:=1) (l:=lY ol) 0 (by kernel_rfl) rfl
  exact ⟨.slice Ar ol.length cr,rfl,by rw [← ho]; exact fr⟩
end Go.Proofs.YtmoahpojchndiaaGreatDoor

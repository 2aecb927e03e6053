/-
  Contract of lex.Tokens.
-/
import Derived.Test.YthplkompdehjlaaGreatDoorZR29
import Derived.Test.YthplkompdehjlaaGreatDoorZR23
namespace Go.Proofs.YthplkompdehjlaaGreatDoor
open Go.RowKit
theorem infoTok:(Tryz.prog.info? 117).map (fun i=>(i.zero,i.size,i.bytes))=some (some (.agg #[.int .i64 0,.int .i64 0,.string ⟨#[]⟩,.int .i64 0,.int .i64 0,.string ⟨#[]⟩]),6,64):=by kernel_rfl
@[reducible] def tcells (a:TokA):List Value:=[.int .i64 a.t.kd,.int .i64 a.at',.string ⟨a.t.s.toArray⟩,.int .i64 a.t.vk,.int .i64 a.t.vn,.string ⟨a.t.vs.toArray⟩]
theorem tcells_len (ts:List TokA):∀ r∈ts.map tcells,r.length=6:=by
 intro r hr
 obtain ⟨d,-,rfl⟩:=List.mem_map.1 hr
 rfl
theorem ext_drop (s:ByteArray) (k:Nat):(s.extract k s.size).data.toList=s.data.toList.drop k:=by
 rw [ByteArray.data_extract]
 simp
 exact List.take_of_length_le (by simp)
def TokPost (L:List UInt8) (w:World) (e:Ending) (w':World):Prop :=
 Below w.heap.size w w'∧((∃ (a:Nat) (er:Int),lexF L=.error (a,er)∧e=.returned (.tuple #[.slice none 0 0,.int .i64 a,.int .i64 er])) ∨
  (∃ ts v,lexF L=.ok ts∧e=.returned (.tuple #[v,.int .i64 0,.int .i64 0])∧Own w' w.heap.size 117 6 v ts.length (ts.map tcells).flatten∧ts.length≤L.length))
theorem tokPost_err {L:List UInt8} {w w':World} {a:Nat} {er:Int} {v:Value} (h:lexF L=.error (a,er)) (hv:v=.tuple #[.slice none 0 0,.int .i64 a,.int .i64 er]) (hb:Below w.heap.size w w'):TokPost L w (.returned v) w' :=
 ⟨hb,.inl ⟨a,er,h,by rw [hv]⟩⟩
theorem tokPost_ok {L:List UInt8} {w w':World} {ts:List TokA} {u v:Value} (h:lexF L=.ok ts) (hv:v=.tuple #[u,.int .i64 0,.int .i64 0]) (ho:Own w' w.heap.size 117 6 u ts.length (ts.map tcells).flatten) (hl:ts.length≤L.length) (hb:Below w.heap.size w w'):TokPost L w (.returned v) w' :=
 ⟨hb,.inr ⟨ts,u,h,by rw [hv],ho,hl⟩⟩
theorem tokens_long (s:ByteArray) (w:World) (h:160 < s.size) (hs:s.size≤9223372036854775807):Calls Tryz.prog 27 #[.string s] w fun e w'=>e=.returned (.tuple #[.slice none 0 0,.int .i64 0,.int .i64 1])∧w=w':=by
 have h':(160:Int) < (s.size:Int):=by omega
 clear h
 go_enter Tryz.func27,Tryz.ntmps27
 go_wp2_with fail
 exact bodyPost_ret (v:=.tuple #[.slice none 0 0,.int .i64 0,.int .i64 1]) (by simp [results,Tryz.results27,go_sem]) rfl ⟨rfl,rfl⟩
set_option maxRecDepth 100000 in
set_option maxHeartbeats 8000000 in
theorem tokens_any (s:ByteArray) (w:World) (hs:s.size≤160):Calls Tryz.prog 27 #[.string s] w (TokPost s.data.toList w):=by
 obtain ⟨L,hLL⟩:∃ L,s.data.toList=L:=⟨_,rfl⟩
 have hlen:L.length=s.size:=by rw [← hLL]; simp
 have HLL:=Lib.hid hLL
 have HLN:=Lib.hid hlen
 rw [hLL]
 clear hLL hlen
 have hs':(s.size:Int)≤160:=by omega
 obtain ⟨i0,hi,hz0,hz1,hz2⟩:=info_parts infoTok
 go_enter Tryz.func27,Tryz.ntmps27
 go_wp2_with fail
 go_loopw [5,6] (fun v i wr=>∃ (a f:Nat) (acc:List TokA),a≤s.size∧i=.int .i64 a∧s.size < a + f∧acc.length≤a∧lexF L=lexGo f (L.drop a) a acc∧Own wr w.heap.size 117 6 v acc.length (acc.map tcells).flatten∧Below w.heap.size w wr) (fun _ i _=>s.size - (intOf i).toNat)
 case atStart=>exact ⟨0,L.length + 1,[],by omega,rfl,by rw [HLN.out]; omega,by simp,by rw [List.drop_zero]; rfl,⟨World.ownsRow_nil _ _ _ _⟩,Below.refl _ _⟩
 case round =>
  obtain ⟨a,f,acc,ha,rfl,hf,hal,hgo,hown,hw⟩:=hrel
  by_cases hlt:a < s.size
  ·obtain ⟨f,rfl⟩:∃ g,f=g + 1:=⟨f - 1,by omega⟩
   have hb:L[a]?=some s[a]:=by rw [← HLL.out]; exact vJ s a hlt
   have hdr:L.drop a=s[a] :: L.drop (a + 1):=by
    have hk:a < L.length:=(List.getElem?_eq_some_iff.1 hb).1
    rw [List.drop_eq_getElem_cons hk,(List.getElem?_eq_some_iff.1 hb).2]
   by_cases c1:s[a]=32
   ·have e1:((s[a].toNat:Int) == 32)=true:=by rw [c1]; rfl
    have hg2:lexF L=lexGo f (L.drop (a + 1)) (a + 1) acc:=by rw [hgo,hdr]; simp [lexGo,c1]
    have HG:=Lib.hid (And.intro hg2 (And.intro hown hw))
    clear hb hdr c1 hg2 hgo hown hw
    go_wp2_with fail
    go_roundw
    case rel=>exact ⟨a + 1,f,acc,by omega,by go_num,by omega,by omega,HG.out.1,HG.out.2.1,HG.out.2.2⟩
    case measure=>simp [intOf]; omega
   ·have e1:((s[a].toNat:Int) == 32)=false:=beq_eq_false_iff_ne.2 fun e=>c1 (UInt8.toNat_inj.1 (by show _=32; omega))
    have hone:=fun W=>one_any (s.extract a s.size) W (by simp; omega) (by simp; omega)
    rw [ext_drop,HLL.out] at hone
    cases ho:aW (L.drop a) with
    | err er =>
     simp only [ho,dW] at hone
     have hg2:lexF L=.error (a,er):=by rw [hgo,hdr]; rw [hdr] at ho; simp [lexGo,c1,ho]
     have he:=oneF_err ho
     have he':(er == 0)=false:=beq_eq_false_iff_ne.2 (by omega)
     have HG:=Lib.hid hg2
     have HO:=Lib.hid hone
     clear hb hdr c1 hg2 hgo hown ho hone he
     go_wp2_with fail
     with_reducible refine (HO.out _).mono ?_
     rintro e u1 ⟨rfl,hb⟩
     replace hw:=hw.trans (hb.mono hw.size)
     clear hb
     go_wp2_with fail
     refine bodyPost_ret (v:=.tuple #[.slice none 0 0,.int .i64 a,.int .i64 er]) (by simp [results,Tryz.results27,go_sem]) rfl (tokPost_err HG.out rfl ?_)
     exact hw.alloc hw.size _
    | tok t =>
     simp only [ho,dW] at hone
     obtain ⟨l1,l2,l3⟩:=oneF_len ho
     rw [List.length_drop,HLN.out] at l2
     have hg2:lexF L=lexGo f (L.drop (a + t.s.length)) (a + t.s.length) (acc++[⟨t,a⟩]):=by
      rw [hgo,hdr]
      rw [hdr] at ho
      simp only [lexGo,c1,if_false,ho]
      rw [← hdr,List.drop_drop]
     have HG:=Lib.hid hg2
     have HO:=Lib.hid hone
     clear hb hdr c1 hg2 hgo ho hone l3
     go_wp2_with fail
     with_reducible refine (HO.out _).mono ?_
     rintro e u1 ⟨rfl,hb⟩
     replace hw:=hw.trans (hb.mono hw.size)
     replace hown:=hown.keep hb
     clear hb
     go_upto_region 13 with (fail)
     have ht:=Box.new u1 #[.int .i64 t.kd,.int .i64 a,.string ⟨t.s.toArray⟩,.int .i64 t.vk,.int .i64 t.vn,.string ⟨t.vs.toArray⟩] 117
     replace hown:=hown.alloc (.cells #[.int .i64 t.kd,.int .i64 a,.string ⟨t.s.toArray⟩,.int .i64 t.vk,.int .i64 t.vn,.string ⟨t.vs.toArray⟩] 117)
     have d_gt:=hw.size
     replace hw:=hw.alloc (by have:=hw.size; omega) (.cells #[.int .i64 t.kd,.int .i64 a,.string ⟨t.s.toArray⟩,.int .i64 t.vk,.int .i64 t.vn,.string ⟨t.vs.toArray⟩] 117)
     have Z_V1:=Lib.hid (show (u1.alloc (.cells #[.int .i64 t.kd,.int .i64 a,.string ⟨t.s.toArray⟩,.int .i64 t.vk,.int .i64 t.vn,.string ⟨t.vs.toArray⟩] 117)).heap.size=u1.heap.size + 1 from by simp)
     generalize u1.alloc (.cells #[.int .i64 t.kd,.int .i64 a,.string ⟨t.s.toArray⟩,.int .i64 t.vk,.int .i64 t.vn,.string ⟨t.vs.toArray⟩] 117)=V1 at *
     generalize u1.heap.size=gt at *
     have x0:=ht.cells 0 _ rfl
     have x1:=ht.cells 1 _ rfl
     have x2:=ht.cells 2 _ rfl
     have x3:=ht.cells 3 _ rfl
     have x4:=ht.cells 4 _ rfl
     have x5:=ht.cells 5 _ rfl
     have hal':=hown.alloc (.cells #[.int .i64 t.kd,.int .i64 a,.string ⟨t.s.toArray⟩,.int .i64 t.vk,.int .i64 t.vn,.string ⟨t.vs.toArray⟩] 117)
     have hbx:=Box.new V1 #[.int .i64 t.kd,.int .i64 a,.string ⟨t.s.toArray⟩,.int .i64 t.vk,.int .i64 t.vn,.string ⟨t.vs.toArray⟩] 117
     have hwa:=hw.alloc hw.size (.cells #[.int .i64 t.kd,.int .i64 a,.string ⟨t.s.toArray⟩,.int .i64 t.vk,.int .i64 t.vn,.string ⟨t.vs.toArray⟩] 117)
     have hxs:w.heap.size≤(V1.alloc (.cells #[.int .i64 t.kd,.int .i64 a,.string ⟨t.s.toArray⟩,.int .i64 t.vk,.int .i64 t.vn,.string ⟨t.vs.toArray⟩] 117)).heap.size:=hwa.size
     have HAL:=Lib.hid (And.intro hal' (And.intro hbx (And.intro hwa hxs)))
     clear hal' hbx hwa hxs hown hw
     go_wp2_with (at_builtin; refine wpList_append_own _ rfl (.tmp 40) (.tmp 42) 63 rfl w.heap.size 117 i0 (.agg #[.int .i64 0,.int .i64 0,.string ⟨#[]⟩,.int .i64 0,.int .i64 0,.string ⟨#[]⟩]) 6 64 Tryz.underlying63 hi hz0 hz1 hz2 rfl (by decide) _ _ _ rfl HAL.out.1.own ⟨V1.heap.size,0,none⟩ 1 1 (tcells ⟨t,a⟩) rfl rfl (box_add HAL.out.2.1) ?c2 ?c3 ?c4 HAL.out.2.2.2 ?_)
     case c2=>simp [Value.oneCell']
     case c3=>unfold maxLen; omega
     case c4=>omega
     intro v' w1 hown' hgrow _
     have hgb:=bV HAL.out.1 hgrow HAL.out.2.2.2
     have hw':=HAL.out.2.2.1.trans hgb
     have ALL:=Lib.hid (And.intro hown' hw')
     clear hown' hgrow hgb hw' HAL
     clear x0 x1 x2 x3 x4 x5
     clear ht
     go_wp2_with fail
     go_roundw
     case rel =>
      obtain ⟨hown',hw'⟩:=ALL.out
      exact ⟨a + t.s.length,f,acc++[⟨t,a⟩],by omega,by go_num,by omega,by simp; omega,HG.out,⟨by rw [List.map_append,List.flatten_append,List.length_append]; simpa using hown'⟩,hw'⟩
     case measure=>simp [intOf]; omega
  ·have hla:a=s.size:=by omega
   subst hla
   have hg2:lexF L=.ok acc:=by rw [hgo,List.drop_eq_nil_of_le (by rw [HLN.out]; omega),lexGo_nil]
   have HG:=Lib.hid hg2
   clear hg2 hgo
   go_wp2_with fail
   refine bodyPost_ret (v:=.tuple #[u5,.int .i64 0,.int .i64 0]) (by simp [results,Tryz.results27,go_sem]) rfl (tokPost_ok HG.out rfl hown (by rw [HLN.out]; exact hal) hw)
end Go.Proofs.YthplkompdehjlaaGreatDoor

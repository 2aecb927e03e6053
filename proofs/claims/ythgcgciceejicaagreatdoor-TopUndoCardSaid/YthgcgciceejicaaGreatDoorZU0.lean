/-
  Words that the contracts here share: what a call gives, where it makes at most new memory.
-/
import Derived.Test.YthgcgciceejicaaGreatDoorRows
import Derived.WalkSpells
import Derived.WalkLawsBesides
import Derived.Lib.Hide
import Derived.BigQuiet
namespace Go.Proofs.YthgcgciceejicaaGreatDoor
theorem Aj:type_of% @And.intro:=@And.intro
theorem Bj:type_of% @if_neg:=@if_neg
theorem Cj:type_of% @if_pos:=@if_pos
theorem Dj:type_of% @congrArg:=@congrArg
theorem Ej:type_of% @List.mem_of_getElem?:=@List.mem_of_getElem?
theorem Fj:type_of% @List.getElem?_eq_getElem:=@List.getElem?_eq_getElem
theorem Gj:type_of% @Go.Lib.hid:=@Go.Lib.hid
theorem Hj:type_of% @List.length_map:=@List.length_map
theorem Ij:type_of% @Nat.le_refl:=@Nat.le_refl
theorem Jj:type_of% @decide_eq_true:=@decide_eq_true
theorem Kj:type_of% @decide_eq_false:=@decide_eq_false
theorem Lj:type_of% @beq_eq_false_iff_ne:=@beq_eq_false_iff_ne
theorem Mj:type_of% @List.getElem?_map:=@List.getElem?_map
theorem Nj:type_of% @List.getElem?_eq_some_iff:=@List.getElem?_eq_some_iff
theorem Oj:type_of% @Nat.zero_le:=@Nat.zero_le
theorem Pj:type_of% @List.mem_singleton:=@List.mem_singleton
theorem Qj:type_of% @List.mem_append:=@List.mem_append
theorem Rj:type_of% @List.mem_map:=@List.mem_map
theorem Sj:type_of% @List.all_eq_true:=@List.all_eq_true
theorem Tj:type_of% @List.mem_cons:=@List.mem_cons
theorem Uj:type_of% @List.mem_append_right:=@List.mem_append_right
theorem Vj:type_of% @Bool.and_eq_true:=@Bool.and_eq_true
theorem Wj:type_of% @Option.some.injEq:=@Option.some.injEq
theorem Xj:type_of% @Go.RowKit.Below.refl:=@Go.RowKit.Below.refl
theorem Yj:type_of% @beq_iff_eq:=@beq_iff_eq
theorem Zj:type_of% @Option.some.inj:=@Option.some.inj
theorem Bk:type_of% @List.length_append:=@List.length_append
theorem Ck:type_of% @Nat.eq_of_beq_eq_true:=@Nat.eq_of_beq_eq_true
theorem Dk:type_of% @List.map_cons:=@List.map_cons
theorem Ek:type_of% @List.mem_append_left:=@List.mem_append_left
theorem Fk:type_of% @bne_iff_ne:=@bne_iff_ne
theorem Gk:type_of% @List.cons.injEq:=@List.cons.injEq
theorem Hk:type_of% @and_true:=@and_true
theorem Ik:type_of% @List.mem_flatMap:=@List.mem_flatMap
theorem Jk:type_of% @Go.Value.slice.injEq:=@Go.Value.slice.injEq
theorem Kk:type_of% @List.length_take:=@List.length_take
theorem Mk:type_of% @List.mem_cons_of_mem:=@List.mem_cons_of_mem
theorem Nk:type_of% @bne_eq_false_iff_eq:=@bne_eq_false_iff_eq
theorem Pk:type_of% @List.take_length:=@List.take_length
theorem Qk:type_of% @List.mem_range:=@List.mem_range
theorem Rk:type_of% @Go.Sem.run_bind:=@Go.Sem.run_bind
theorem Sk:type_of% @Prod.mk.injEq:=@Prod.mk.injEq
theorem Tk:type_of% @Array.getElem?_eq_some_iff:=@Array.getElem?_eq_some_iff
theorem Uk:type_of% @Go.wpList_plain:=@Go.wpList_plain
theorem Vk:type_of% @List.length_cons:=@List.length_cons
theorem Wk:type_of% @List.map_append:=@List.map_append
theorem Xk:type_of% @List.getElem?_of_mem:=@List.getElem?_of_mem
theorem Yk:type_of% @List.getD_eq_getElem?_getD:=@List.getD_eq_getElem?_getD
theorem Zk:type_of% @Go.MapKept.bytes_beq:=@Go.MapKept.bytes_beq
theorem Bq:type_of% @Go.Sem.run_pure:=@Go.Sem.run_pure
theorem Cq:type_of% @List.mem_cons_self:=@List.mem_cons_self
theorem Dq:type_of% @Nat.lt_of_lt_of_le:=@Nat.lt_of_lt_of_le
theorem Eq:type_of% @List.nodup_append:=@List.nodup_append
theorem Gq:type_of% @Go.Result.andThen_ok:=@Go.Result.andThen_ok
theorem Hq:type_of% @List.mem_filter:=@List.mem_filter
theorem Iq:type_of% @Nat.le_trans:=@Nat.le_trans
theorem Jq:type_of% @List.getElem?_eq_none:=@List.getElem?_eq_none
theorem Kq:type_of% @Bool.eq_false_iff:=@Bool.eq_false_iff
theorem Lq:type_of% @Nat.zero_add:=@Nat.zero_add
theorem Mq:type_of% @List.nodup_cons:=@List.nodup_cons
theorem Nq:type_of% @Nat.le_of_ble_eq_true:=@Nat.le_of_ble_eq_true
theorem Oq:type_of% @List.append_assoc:=@List.append_assoc
theorem Pq:type_of% @List.ext_getElem?:=@List.ext_getElem?
theorem Qq:type_of% @True.intro:=@True.intro
theorem Rq:type_of% @of_decide_eq_true:=@of_decide_eq_true
theorem Sq:type_of% @Option.map_some:=@Option.map_some
theorem Tq:type_of% @Array.getD_eq_getD_getElem?:=@Array.getD_eq_getD_getElem?
theorem Uq:type_of% @List.size_toArray:=@List.size_toArray
theorem Vq:type_of% @List.length_nil:=@List.length_nil
theorem Wq:type_of% @List.getElem?_set_self:=@List.getElem?_set_self
theorem Xq:type_of% @Nat.lt_or_ge:=@Nat.lt_or_ge
theorem Yq:type_of% @List.length_eq_zero_iff:=@List.length_eq_zero_iff
theorem Zq:type_of% @List.cons_append:=@List.cons_append
theorem Bv:type_of% @List.length_set:=@List.length_set
theorem Cv:type_of% @Int.le_refl:=@Int.le_refl
theorem Dv:type_of% @List.flatten_cons:=@List.flatten_cons
theorem Ev:type_of% @List.flatMap_cons:=@List.flatMap_cons
theorem Fv:type_of% @List.foldl_cons:=@List.foldl_cons
theorem Gv:type_of% @List.map_nil:=@List.map_nil
theorem Hv:type_of% @List.mem_iff_getElem?:=@List.mem_iff_getElem?
theorem Iv:type_of% @Bool.false_ne_true:=@Bool.false_ne_true
theorem Jv:type_of% @getElem!_pos:=@getElem!_pos
theorem Kv:type_of% @decide_eq_true_iff:=@decide_eq_true_iff
theorem Lv:type_of% @List.take_of_length_le:=@List.take_of_length_le
theorem Mv:type_of% @Array.getElem?_eq_getElem:=@Array.getElem?_eq_getElem
theorem Nv:type_of% @List.map_map:=@List.map_map
theorem Ov:type_of% @Nat.succ_mul:=@Nat.succ_mul
theorem Pv:type_of% @Array.getElem?_toList:=@Array.getElem?_toList
theorem Qv:type_of% @Bool.or_eq_true:=@Bool.or_eq_true
theorem Rv:type_of% @List.length_replicate:=@List.length_replicate
theorem Tv:type_of% @List.drop_eq_getElem_cons:=@List.drop_eq_getElem_cons
theorem Uv:type_of% @List.nil_append:=@List.nil_append
theorem Vv:type_of% @List.getElem?_set_ne:=@List.getElem?_set_ne
theorem Wv:type_of% @List.getElem?_set:=@List.getElem?_set
theorem Xv:type_of% @List.not_mem_nil:=@List.not_mem_nil
theorem Yv:type_of% @Option.map_eq_some_iff:=@Option.map_eq_some_iff
theorem Zv:type_of% @List.getElem?_zipWith:=@List.getElem?_zipWith
theorem Bw:type_of% @Bool.eq_false_or_eq_true:=@Bool.eq_false_or_eq_true
theorem Cw:type_of% @List.pairwise_map:=@List.pairwise_map
theorem Dw:type_of% @Nat.not_lt_zero:=@Nat.not_lt_zero
theorem Ew:type_of% @List.getElem?_take:=@List.getElem?_take
theorem Gw:type_of% @List.set_eq_take_append_cons_drop:=@List.set_eq_take_append_cons_drop
theorem Hw:type_of% @Go.MapKept.heap_alloc:=@Go.MapKept.heap_alloc
theorem Iw:type_of% @List.getElem?_cons_zero:=@List.getElem?_cons_zero
theorem Jw:type_of% @List.take_append_drop:=@List.take_append_drop
theorem Kw:type_of% @Array.replicate_succ:=@Array.replicate_succ
theorem Lw:type_of% @Array.replicate_zero:=@Array.replicate_zero
theorem Mw:type_of% @List.push_toArray:=@List.push_toArray
theorem Nw:type_of% @List.append_toArray:=@List.append_toArray
theorem Ow:type_of% @Option.getD_some:=@Option.getD_some
theorem Pw:type_of% @decide_eq_true_eq:=@decide_eq_true_eq
theorem Qw:type_of% @List.take_add_one:=@List.take_add_one
theorem Rw:type_of% @List.drop_eq_nil_of_le:=@List.drop_eq_nil_of_le
theorem Sw:type_of% @List.singleton_append:=@List.singleton_append
theorem Tw:type_of% @List.mem_zipIdx_iff_getElem?:=@List.mem_zipIdx_iff_getElem?
theorem Uw:type_of% @Option.toList_some:=@Option.toList_some
theorem Ww:type_of% @forall_eq_or_imp:=@forall_eq_or_imp
theorem Xw:type_of% @List.getElem?_inj:=@List.getElem?_inj
theorem Yw:type_of% @List.foldl_append:=@List.foldl_append
theorem Zw:type_of% @List.nodup_range:=@List.nodup_range
theorem Cx:type_of% @List.getElem?_append_right:=@List.getElem?_append_right
theorem Gx:type_of% @Nat.ne_of_beq_eq_false:=@Nat.ne_of_beq_eq_false
theorem Hx:type_of% @Option.isSome_iff_exists:=@Option.isSome_iff_exists
theorem Lx:type_of% @Nat.mul_le_mul_right:=@Nat.mul_le_mul_right
theorem Ox:type_of% @Go.World.block_lt_of_cell?:=@Go.World.block_lt_of_cell?
theorem Px:type_of% @List.getElem?_append_left:=@List.getElem?_append_left
open Go.RowKit
def Gives (v:Value) (w:World) (e:Ending) (w':World):Prop:=e=.returned v/\Below w.heap.size w w'
theorem gives_mk {v v':Value} {w w':World} (h:v=v') (hb:Below w.heap.size w w'):Gives v' w (.returned v) w':=by subst h; exact ⟨rfl,hb⟩
theorem bcell {W w1:World} (hb:Below W.heap.size W w1):(∀ b o,b < W.heap.size->w1.cell? ⟨b,o,none⟩=W.cell? ⟨b,o,none⟩)/\(∀ b o,b < W.heap.size->w1.frozen? ⟨b,o,none⟩=W.frozen? ⟨b,o,none⟩) :=
 ⟨λb o h=>hb.cell (p:=⟨b,o,none⟩) h,λb o h=>hb.frozen (p:=⟨b,o,none⟩) h⟩
structure Box (w:World) (b:Nat) (vs:List Value):Prop where
 lt:b < w.heap.size
 cells:∀ i v,vs[i]?=some v->w.cell? ⟨b,i,none⟩=some v
 free:∀ i,w.frozen? ⟨b,i,none⟩=false
theorem Box.new (w:World) (a:Array Value) (t:TypeId):Box (w.alloc (.cells a t)) w.heap.size a.toList:=by
 refine ⟨by simp,λi v h=>?_,λi=>World.frozen?_alloc_at _ _ _ _ rfl⟩;rw [World.cell?_alloc_at _ _ _ _ rfl]
 simpa using h
theorem Box.keep {w w':World} {b:Nat} {vs:List Value} (h:Box w b vs) (hb:Below w.heap.size w w'):Box w' b vs :=
 ⟨Nat.lt_of_lt_of_le h.lt hb.size,λi v hv=>(hb.cell (p:=⟨b,i,none⟩) h.lt).trans (h.cells i v hv),λi=>(hb.frozen (p:=⟨b,i,none⟩) h.lt).trans (h.free i)⟩
theorem Box.alloc {w:World} {b:Nat} {vs:List Value} (h:Box w b vs) (o:Obj):Box (w.alloc o) b vs :=
 h.keep ((Below.refl _ _).alloc (Nat.le_refl _) _)
theorem Box.drew {w:World} {b:Nat} {vs:List Value} (h:Box w b vs) (n:Nat):Box (w.drewN n) b vs :=
 h.keep (below_drewN (Below.refl _ _) n)
theorem below_box {w w':World} {o:Obj} (hb:Below (w.alloc o).heap.size (w.alloc o) w'):Below w.heap.size w w' :=
 ((Below.refl _ _).alloc (Nat.le_refl _) _).trans (hb.mono (by simp))
theorem bthen {w w' w'':World} (h:Below w.heap.size w w') (k:Below w'.heap.size w' w''):Below w.heap.size w w'':=h.trans (k.mono h.size)
end Go.Proofs.YthgcgciceejicaaGreatDoor

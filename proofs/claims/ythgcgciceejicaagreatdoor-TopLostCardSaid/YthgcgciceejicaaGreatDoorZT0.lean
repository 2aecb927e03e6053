/-
  Words that the contracts here share: what a call gives, where it makes at most new memory.
-/
import Derived.Test.YthgcgciceejicaaGreatDoorRows
import Derived.WalkSpells
import Derived.WalkLawsBesides
import Derived.Lib.Hide
import Derived.BigQuiet
namespace Go.Proofs.YthgcgciceejicaaGreatDoor
theorem Aj:type_of% @And.intro:=@And.intro
theorem Bj:type_of% @if_neg:=@if_neg
theorem Cj:type_of% @if_pos:=@if_pos
theorem Dj:type_of% @congrArg:=@congrArg
theorem Ej:type_of% @List.mem_of_getElem?:=@List.mem_of_getElem?
theorem Fj:type_of% @Go.Lib.hid:=@Go.Lib.hid
theorem Gj:type_of% @List.getElem?_eq_getElem:=@List.getElem?_eq_getElem
theorem Hj:type_of% @Nat.le_refl:=@Nat.le_refl
theorem Ij:type_of% @List.length_map:=@List.length_map
theorem Jj:type_of% @decide_eq_true:=@decide_eq_true
theorem Kj:type_of% @decide_eq_false:=@decide_eq_false
theorem Lj:type_of% @beq_eq_false_iff_ne:=@beq_eq_false_iff_ne
theorem Mj:type_of% @Nat.zero_le:=@Nat.zero_le
theorem Nj:type_of% @List.getElem?_eq_some_iff:=@List.getElem?_eq_some_iff
theorem Oj:type_of% @List.getElem?_map:=@List.getElem?_map
theorem Pj:type_of% @List.mem_singleton:=@List.mem_singleton
theorem Qj:type_of% @List.mem_append:=@List.mem_append
theorem Rj:type_of% @List.mem_map:=@List.mem_map
theorem Sj:type_of% @List.all_eq_true:=@List.all_eq_true
theorem Tj:type_of% @List.mem_cons:=@List.mem_cons
theorem Uj:type_of% @Bool.and_eq_true:=@Bool.and_eq_true
theorem Vj:type_of% @List.mem_append_right:=@List.mem_append_right
theorem Wj:type_of% @Go.RowKit.Below.refl:=@Go.RowKit.Below.refl
theorem Xj:type_of% @beq_iff_eq:=@beq_iff_eq
theorem Yj:type_of% @Option.some.injEq:=@Option.some.injEq
theorem Zj:type_of% @Nat.eq_of_beq_eq_true:=@Nat.eq_of_beq_eq_true
theorem Bk:type_of% @List.length_append:=@List.length_append
theorem Ck:type_of% @List.length_take:=@List.length_take
theorem Dk:type_of% @Option.some.inj:=@Option.some.inj
theorem Ek:type_of% @List.mem_append_left:=@List.mem_append_left
theorem Fk:type_of% @List.mem_flatMap:=@List.mem_flatMap
theorem Gk:type_of% @List.mem_cons_of_mem:=@List.mem_cons_of_mem
theorem Hk:type_of% @bne_iff_ne:=@bne_iff_ne
theorem Ik:type_of% @List.map_cons:=@List.map_cons
theorem Jk:type_of% @List.mem_range:=@List.mem_range
theorem Kk:type_of% @Go.Sem.run_bind:=@Go.Sem.run_bind
theorem Mk:type_of% @List.map_append:=@List.map_append
theorem Nk:type_of% @Array.getElem?_eq_some_iff:=@Array.getElem?_eq_some_iff
theorem Pk:type_of% @List.take_length:=@List.take_length
theorem Qk:type_of% @List.cons.injEq:=@List.cons.injEq
theorem Rk:type_of% @bne_eq_false_iff_eq:=@bne_eq_false_iff_eq
theorem Sk:type_of% @List.length_cons:=@List.length_cons
theorem Tk:type_of% @Go.Value.slice.injEq:=@Go.Value.slice.injEq
theorem Uk:type_of% @List.getD_eq_getElem?_getD:=@List.getD_eq_getElem?_getD
theorem Vk:type_of% @Go.wpList_plain:=@Go.wpList_plain
theorem Wk:type_of% @Go.Sem.run_pure:=@Go.Sem.run_pure
theorem Xk:type_of% @Go.MapKept.bytes_beq:=@Go.MapKept.bytes_beq
theorem Yk:type_of% @Nat.le_trans:=@Nat.le_trans
theorem Zk:type_of% @List.mem_cons_self:=@List.mem_cons_self
theorem Bq:type_of% @List.getElem?_of_mem:=@List.getElem?_of_mem
theorem Cq:type_of% @Nat.lt_of_lt_of_le:=@Nat.lt_of_lt_of_le
theorem Dq:type_of% @List.nodup_append:=@List.nodup_append
theorem Fq:type_of% @List.length_nil:=@List.length_nil
theorem Gq:type_of% @Nat.zero_add:=@Nat.zero_add
theorem Hq:type_of% @Go.Result.andThen_ok:=@Go.Result.andThen_ok
theorem Iq:type_of% @and_true:=@and_true
theorem Jq:type_of% @List.mem_filter:=@List.mem_filter
theorem Kq:type_of% @Prod.mk.injEq:=@Prod.mk.injEq
theorem Lq:type_of% @List.append_assoc:=@List.append_assoc
theorem Mq:type_of% @List.nodup_cons:=@List.nodup_cons
theorem Nq:type_of% @Nat.le_of_ble_eq_true:=@Nat.le_of_ble_eq_true
theorem Oq:type_of% @True.intro:=@True.intro
theorem Pq:type_of% @Array.getD_eq_getD_getElem?:=@Array.getD_eq_getD_getElem?
theorem Qq:type_of% @List.length_set:=@List.length_set
theorem Rq:type_of% @List.size_toArray:=@List.size_toArray
theorem Sq:type_of% @Bool.eq_false_iff:=@Bool.eq_false_iff
theorem Tq:type_of% @Int.le_refl:=@Int.le_refl
theorem Uq:type_of% @Nat.succ_mul:=@Nat.succ_mul
theorem Vq:type_of% @List.ext_getElem?:=@List.ext_getElem?
theorem Wq:type_of% @List.length_eq_zero_iff:=@List.length_eq_zero_iff
theorem Xq:type_of% @List.cons_append:=@List.cons_append
theorem Yq:type_of% @of_decide_eq_true:=@of_decide_eq_true
theorem Zq:type_of% @List.getElem?_set_self:=@List.getElem?_set_self
theorem Bv:type_of% @Option.map_some:=@Option.map_some
theorem Cv:type_of% @List.flatten_cons:=@List.flatten_cons
theorem Dv:type_of% @List.flatMap_cons:=@List.flatMap_cons
theorem Fv:type_of% @List.mem_iff_getElem?:=@List.mem_iff_getElem?
theorem Gv:type_of% @List.getElem?_eq_none:=@List.getElem?_eq_none
theorem Hv:type_of% @getElem!_pos:=@getElem!_pos
theorem Iv:type_of% @Nat.lt_or_ge:=@Nat.lt_or_ge
theorem Jv:type_of% @List.map_map:=@List.map_map
theorem Kv:type_of% @List.foldl_cons:=@List.foldl_cons
theorem Lv:type_of% @List.take_of_length_le:=@List.take_of_length_le
theorem Mv:type_of% @Nat.not_lt_zero:=@Nat.not_lt_zero
theorem Nv:type_of% @Array.getElem?_eq_getElem:=@Array.getElem?_eq_getElem
theorem Ov:type_of% @List.take_add_one:=@List.take_add_one
theorem Pv:type_of% @Nat.add_zero:=@Nat.add_zero
theorem Qv:type_of% @Array.getElem?_toList:=@Array.getElem?_toList
theorem Rv:type_of% @Nat.mul_le_mul_right:=@Nat.mul_le_mul_right
theorem Sv:type_of% @List.length_replicate:=@List.length_replicate
theorem Tv:type_of% @List.drop_eq_getElem_cons:=@List.drop_eq_getElem_cons
theorem Uv:type_of% @List.nil_append:=@List.nil_append
theorem Vv:type_of% @List.drop_eq_nil_of_le:=@List.drop_eq_nil_of_le
theorem Wv:type_of% @List.getElem?_drop:=@List.getElem?_drop
theorem Xv:type_of% @Nat.add_assoc:=@Nat.add_assoc
theorem Yv:type_of% @List.getElem?_set:=@List.getElem?_set
theorem Zv:type_of% @Bool.or_eq_true:=@Bool.or_eq_true
theorem Bw:type_of% @List.not_mem_nil:=@List.not_mem_nil
theorem Cw:type_of% @Nat.sub_self:=@Nat.sub_self
theorem Dw:type_of% @List.getElem?_zipWith:=@List.getElem?_zipWith
theorem Ew:type_of% @List.pairwise_map:=@List.pairwise_map
theorem Fw:type_of% @List.getElem?_set_ne:=@List.getElem?_set_ne
theorem Gw:type_of% @List.getElem?_take:=@List.getElem?_take
theorem Hw:type_of% @List.mem_of_mem_eraseIdx:=@List.mem_of_mem_eraseIdx
theorem Iw:type_of% @List.set_eq_take_append_cons_drop:=@List.set_eq_take_append_cons_drop
theorem Jw:type_of% @List.mem_zipIdx_iff_getElem?:=@List.mem_zipIdx_iff_getElem?
theorem Kw:type_of% @Go.MapKept.heap_alloc:=@Go.MapKept.heap_alloc
theorem Lw:type_of% @List.append_nil:=@List.append_nil
theorem Mw:type_of% @List.take_append_drop:=@List.take_append_drop
theorem Nw:type_of% @Array.replicate_succ:=@Array.replicate_succ
theorem Ow:type_of% @Array.replicate_zero:=@Array.replicate_zero
theorem Pw:type_of% @List.push_toArray:=@List.push_toArray
theorem Qw:type_of% @List.append_toArray:=@List.append_toArray
theorem Rw:type_of% @List.foldl_append:=@List.foldl_append
theorem Sw:type_of% @Option.getD_some:=@Option.getD_some
theorem Tw:type_of% @List.getElem?_append_right:=@List.getElem?_append_right
theorem Uw:type_of% @List.singleton_append:=@List.singleton_append
theorem Ww:type_of% @List.mem_of_mem_drop:=@List.mem_of_mem_drop
theorem Xw:type_of% @Option.toList_some:=@Option.toList_some
theorem Yw:type_of% @forall_eq_or_imp:=@forall_eq_or_imp
theorem Zw:type_of% @Option.map_eq_some_iff:=@Option.map_eq_some_iff
theorem Bx:type_of% @List.getElem?_inj:=@List.getElem?_inj
theorem Cx:type_of% @Bool.false_ne_true:=@Bool.false_ne_true
theorem Dx:type_of% @List.nodup_range:=@List.nodup_range
theorem Gx:type_of% @Array.getElem?_eq_none:=@Array.getElem?_eq_none
theorem Hx:type_of% @Nat.ne_of_beq_eq_false:=@Nat.ne_of_beq_eq_false
theorem Kx:type_of% @Option.isSome_iff_exists:=@Option.isSome_iff_exists
theorem Nx:type_of% @List.getElem?_cons_zero:=@List.getElem?_cons_zero
theorem Px:type_of% @Bool.eq_false_or_eq_true:=@Bool.eq_false_or_eq_true
theorem Rx:type_of% @Go.World.block_lt_of_cell?:=@Go.World.block_lt_of_cell?
theorem Sx:type_of% @List.getElem?_append_left:=@List.getElem?_append_left
open Go.RowKit
def Gives (v:Value) (w:World) (e:Ending) (w':World):Prop:=e=.returned v/\Below w.heap.size w w'
theorem gives_mk {v v':Value} {w w':World} (h:v=v') (hb:Below w.heap.size w w'):Gives v' w (.returned v) w':=by subst h; exact ⟨rfl,hb⟩
theorem bcell {W w1:World} (hb:Below W.heap.size W w1):(∀ b o,b < W.heap.size->w1.cell? ⟨b,o,none⟩=W.cell? ⟨b,o,none⟩)/\(∀ b o,b < W.heap.size->w1.frozen? ⟨b,o,none⟩=W.frozen? ⟨b,o,none⟩) :=
 ⟨λb o h=>hb.cell (p:=⟨b,o,none⟩) h,λb o h=>hb.frozen (p:=⟨b,o,none⟩) h⟩
structure Box (w:World) (b:Nat) (vs:List Value):Prop where
 lt:b < w.heap.size
 cells:∀ i v,vs[i]?=some v->w.cell? ⟨b,i,none⟩=some v
 free:∀ i,w.frozen? ⟨b,i,none⟩=false
theorem Box.new (w:World) (a:Array Value) (t:TypeId):Box (w.alloc (.cells a t)) w.heap.size a.toList:=by
 refine ⟨by simp,λi v h=>?_,λi=>World.frozen?_alloc_at _ _ _ _ rfl⟩;rw [World.cell?_alloc_at _ _ _ _ rfl]
 simpa using h
theorem Box.keep {w w':World} {b:Nat} {vs:List Value} (h:Box w b vs) (hb:Below w.heap.size w w'):Box w' b vs :=
 ⟨Nat.lt_of_lt_of_le h.lt hb.size,λi v hv=>(hb.cell (p:=⟨b,i,none⟩) h.lt).trans (h.cells i v hv),λi=>(hb.frozen (p:=⟨b,i,none⟩) h.lt).trans (h.free i)⟩
theorem Box.alloc {w:World} {b:Nat} {vs:List Value} (h:Box w b vs) (o:Obj):Box (w.alloc o) b vs :=
 h.keep ((Below.refl _ _).alloc (Nat.le_refl _) _)
theorem Box.drew {w:World} {b:Nat} {vs:List Value} (h:Box w b vs) (n:Nat):Box (w.drewN n) b vs :=
 h.keep (below_drewN (Below.refl _ _) n)
theorem below_box {w w':World} {o:Obj} (hb:Below (w.alloc o).heap.size (w.alloc o) w'):Below w.heap.size w w' :=
 ((Below.refl _ _).alloc (Nat.le_refl _) _).trans (hb.mono (by simp))
theorem bthen {w w' w'':World} (h:Below w.heap.size w w') (k:Below w'.heap.size w' w''):Below w.heap.size w w'':=h.trans (k.mono h.size)
end Go.Proofs.YthgcgciceejicaaGreatDoor

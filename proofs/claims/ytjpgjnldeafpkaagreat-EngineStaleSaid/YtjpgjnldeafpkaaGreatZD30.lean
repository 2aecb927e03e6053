/-
  DERIVED: THE SHELF's CONTRACTS AT THIS DUMP, IN PLAIN WORDS (tools/lay-plain.mjs out of 'TryzIterRaw.lean', which tools/lay-shelf.mjs wrote): THE SAME DECLARATIONS UNDER THE SAME NAMES: 'import', 'namespace', 'open', 'def', 'theorem' AND NOTHING ELSE: no command of the shelf's: FOR A HAND-IN. Each laying: the table of numbers ('.._ren') and one theorem, a field a fact of the dump's own or the kernel's comparison; each contract: ONE APPLICATION.
-/
import Derived.Shelf.SlIter.Nil
import Derived.Shelf.SortM.Plain
import Derived.Shelf.SortM.SortNone
import Derived.Ground.GgzProg
import Derived.Ground.SlgmProg
import Derived.Test.YtjpgjnldeafpkaaGreatProg
namespace Go.Proofs.YtjpgjnldeafpkaaGreat
open Go.RowKit Go.Maps Go.Sort Go.Shelf
def Tryz.keys196_ren : Go.Shelf.Ren := ⟨fun | 7 => 196 | 10 => 204 | n => n, fun | 23 => 256 | 26 => 9 | 3 => 4 | 28 => 258 | 0 => 0 | 27 => 257 | 33 => 235 | 4 => 4 | n => n, fun | n => n⟩
theorem Tryz.keys196 : Go.Proofs.SlLaysZ.n7 Tryz.prog Tryz.keys196_ren := {
  mixed := by kernel_rfl
  f7 := ⟨Tryz.f196.name, by decide, Tryz.func196.trans (congrArg some (by kernel_rfl))⟩
  f10 := ⟨Tryz.f204.name, by decide, Tryz.func204.trans (congrArg some (by kernel_rfl))⟩
  t0 := Tryz.underlying0
  a0 := Tryz.isAgg0
  z0 := Tryz.sizeOf0
  v0 := Tryz.zeroValue0
  t4 := Tryz.underlying4
  a4 := Tryz.isAgg4
  z4 := Tryz.sizeOf4
  v4 := Tryz.zeroValue4
  t23 := Tryz.underlying256
  a23 := Tryz.isAgg256
  z23 := Tryz.sizeOf256
  v23 := Tryz.zeroValue256
  t26 := Tryz.underlying9
  a26 := Tryz.isAgg9
  z26 := Tryz.sizeOf9
  v26 := Tryz.zeroValue9
  t27 := Tryz.underlying257
  a27 := Tryz.isAgg257
  z27 := Tryz.sizeOf257
  v27 := Tryz.zeroValue257
  t28 := Tryz.underlying258
  a28 := Tryz.isAgg258
  z28 := Tryz.sizeOf258
  v28 := Tryz.zeroValue258
  t33 := Tryz.underlying235
  a33 := Tryz.isAgg235
  z33 := Tryz.sizeOf235
  v33 := Tryz.zeroValue235 }
def Tryz.sorted195_ren : Go.Shelf.Ren := ⟨fun | 6 => 195 | 8 => 202 | 9 => 203 | 11 => 206 | 13 => 208 | 12 => 207 | 23 => 218 | 24 => 219 | 14 => 209 | 15 => 210 | 16 => 211 | 17 => 212 | 18 => 213 | 19 => 214 | 20 => 215 | 21 => 216 | 22 => 217 | 25 => 220 | 26 => 221 | 27 => 222 | 28 => 223 | 29 => 224 | 30 => 198 | 31 => 225 | n => n, fun | 26 => 9 | 28 => 258 | 24 => 39 | 0 => 0 | 3 => 3 | 37 => 262 | 48 => 277 | 50 => 279 | 4 => 4 | 40 => 270 | 39 => 269 | 45 => 248 | 5 => 5 | 9 => 9 | 51 => 280 | 55 => 284 | 57 => 286 | 58 => 193 | 33 => 235 | n => n, fun | n => n⟩
theorem Tryz.sorted195 : Go.Proofs.SlLaysZ.n6 Tryz.prog Tryz.sorted195_ren := {
  mixed := by kernel_rfl
  f6 := ⟨Tryz.f195.name, by decide, Tryz.func195.trans (congrArg some (by kernel_rfl))⟩
  f8 := ⟨Tryz.f202.name, by decide, Tryz.func202.trans (congrArg some (by kernel_rfl))⟩
  f11 := ⟨Tryz.f206.name, by decide, Tryz.func206.trans (congrArg some (by kernel_rfl))⟩
  t0 := Tryz.underlying0
  a0 := Tryz.isAgg0
  z0 := Tryz.sizeOf0
  v0 := Tryz.zeroValue0
  t24 := Tryz.underlying39
  a24 := Tryz.isAgg39
  z24 := Tryz.sizeOf39
  v24 := Tryz.zeroValue39
  t26 := Tryz.underlying9
  a26 := Tryz.isAgg9
  z26 := Tryz.sizeOf9
  v26 := Tryz.zeroValue9
  t28 := Tryz.underlying258
  a28 := Tryz.isAgg258
  z28 := Tryz.sizeOf258
  v28 := Tryz.zeroValue258
  i26 := by kernel_rfl }
def Tryz.sort203_ren : Go.Shelf.Ren := ⟨fun | 6 => 203 | 8 => 208 | 9 => 207 | 19 => 218 | 20 => 219 | 21 => 209 | 22 => 210 | 23 => 211 | 24 => 212 | 25 => 213 | 26 => 214 | 27 => 215 | 28 => 216 | 29 => 217 | 36 => 220 | 31 => 221 | 32 => 222 | 37 => 223 | 38 => 224 | 39 => 198 | 41 => 225 | n => n, fun | 27 => 39 | 29 => 9 | 3 => 3 | 32 => 262 | 26 => 39 | 0 => 0 | 44 => 277 | 46 => 279 | 4 => 4 | 36 => 270 | 35 => 269 | 41 => 248 | 5 => 5 | 9 => 9 | 53 => 280 | 57 => 284 | 63 => 286 | 64 => 193 | n => n, fun | n => n⟩
theorem Tryz.sort203 : Go.Proofs.SlLaysM.n6 Tryz.prog Tryz.sort203_ren := {
  mixed := by kernel_rfl
  f6 := ⟨Tryz.f203.name, by decide, Tryz.func203.trans (congrArg some (by kernel_rfl))⟩
  f8 := Tryz.func208.trans (congrArg some (by kernel_rfl))
  f9 := ⟨Tryz.f207.name, by decide, Tryz.func207.trans (congrArg some (by kernel_rfl))⟩
  f19 := Tryz.func218.trans (congrArg some (by kernel_rfl))
  f20 := Tryz.func219.trans (congrArg some (by kernel_rfl))
  f21 := ⟨Tryz.f209.name, by decide, Tryz.func209.trans (congrArg some (by kernel_rfl))⟩
  f22 := ⟨Tryz.f210.name, by decide, Tryz.func210.trans (congrArg some (by kernel_rfl))⟩
  f23 := ⟨Tryz.f211.name, by decide, Tryz.func211.trans (congrArg some (by kernel_rfl))⟩
  f24 := ⟨Tryz.f212.name, by decide, Tryz.func212.trans (congrArg some (by kernel_rfl))⟩
  f25 := ⟨Tryz.f213.name, by decide, Tryz.func213.trans (congrArg some (by kernel_rfl))⟩
  f26 := ⟨Tryz.f214.name, by decide, Tryz.func214.trans (congrArg some (by kernel_rfl))⟩
  f27 := ⟨Tryz.f215.name, by decide, Tryz.func215.trans (congrArg some (by kernel_rfl))⟩
  f28 := ⟨Tryz.f216.name, by decide, Tryz.func216.trans (congrArg some (by kernel_rfl))⟩
  f29 := ⟨Tryz.f217.name, by decide, Tryz.func217.trans (congrArg some (by kernel_rfl))⟩
  f31 := Tryz.func221.trans (congrArg some (by kernel_rfl))
  f32 := Tryz.func222.trans (congrArg some (by kernel_rfl))
  f36 := ⟨Tryz.f220.name, by decide, Tryz.func220.trans (congrArg some (by kernel_rfl))⟩
  f37 := ⟨Tryz.f223.name, by decide, Tryz.func223.trans (congrArg some (by kernel_rfl))⟩
  f38 := ⟨Tryz.f224.name, by decide, Tryz.func224.trans (congrArg some (by kernel_rfl))⟩
  f39 := ⟨Tryz.f198.name, by decide, Tryz.func198.trans (congrArg some (by kernel_rfl))⟩
  f41 := ⟨Tryz.f225.name, by decide, Tryz.func225.trans (congrArg some (by kernel_rfl))⟩
  t0 := Tryz.underlying0
  a0 := Tryz.isAgg0
  z0 := Tryz.sizeOf0
  v0 := Tryz.zeroValue0
  t3 := Tryz.underlying3
  a3 := Tryz.isAgg3
  z3 := Tryz.sizeOf3
  v3 := Tryz.zeroValue3
  t4 := Tryz.underlying4
  a4 := Tryz.isAgg4
  z4 := Tryz.sizeOf4
  v4 := Tryz.zeroValue4
  t5 := Tryz.underlying5
  a5 := Tryz.isAgg5
  z5 := Tryz.sizeOf5
  v5 := Tryz.zeroValue5
  t9 := Tryz.underlying9
  a9 := Tryz.isAgg9
  z9 := Tryz.sizeOf9
  v9 := Tryz.zeroValue9
  t26 := Tryz.underlying39
  a26 := Tryz.isAgg39
  z26 := Tryz.sizeOf39
  v26 := Tryz.zeroValue39
  t27 := Tryz.underlying39
  a27 := Tryz.isAgg39
  z27 := Tryz.sizeOf39
  v27 := Tryz.zeroValue39
  t29 := Tryz.underlying9
  a29 := Tryz.isAgg9
  z29 := Tryz.sizeOf9
  v29 := Tryz.zeroValue9
  t32 := Tryz.underlying262
  a32 := Tryz.isAgg262
  z32 := Tryz.sizeOf262
  v32 := Tryz.zeroValue262
  t35 := Tryz.underlying269
  a35 := Tryz.isAgg269
  z35 := Tryz.sizeOf269
  v35 := Tryz.zeroValue269
  t36 := Tryz.underlying270
  a36 := Tryz.isAgg270
  z36 := Tryz.sizeOf270
  v36 := Tryz.zeroValue270
  t41 := Tryz.underlying248
  a41 := Tryz.isAgg248
  z41 := Tryz.sizeOf248
  v41 := Tryz.zeroValue248
  t44 := Tryz.underlying277
  a44 := Tryz.isAgg277
  z44 := Tryz.sizeOf277
  v44 := Tryz.zeroValue277
  t46 := Tryz.underlying279
  a46 := Tryz.isAgg279
  z46 := Tryz.sizeOf279
  v46 := Tryz.zeroValue279
  t53 := Tryz.underlying280
  a53 := Tryz.isAgg280
  z53 := Tryz.sizeOf280
  v53 := Tryz.zeroValue280
  t57 := Tryz.underlying284
  a57 := Tryz.isAgg284
  z57 := Tryz.sizeOf284
  v57 := Tryz.zeroValue284
  t63 := Tryz.underlying286
  a63 := Tryz.isAgg286
  z63 := Tryz.sizeOf286
  v63 := Tryz.zeroValue286
  t64 := Tryz.underlying193
  a64 := Tryz.isAgg193
  z64 := Tryz.sizeOf193
  v64 := Tryz.zeroValue193 }


/-- slices.Sort's two contracts at this dump, at the fence that asks nothing. -/
theorem Tryz.sorts195 (m : Nat) : AnyZ.SortsIn Tryz.prog Tryz.sorted195_ren Fence.wide m :=
  ⟨fun blk off cap ss W hH hblk hsz => callsIn_wide.2 (AnyM.slices_Sort_string Tryz.sort203 blk off cap ss W hH hblk hsz),
   fun p cap W => callsIn_wide.2 (AnyM.slices_Sort_string_none Tryz.sort203 p cap W)⟩

/-- **maps.Keys[map[string]bool,string,bool], at whatever map, the nil one too:** a function value over ONE NEW BLOCK, which holds the map. -/
theorem Tryz.maps_Keys_196 (mb : Option Nat) (W : World) : CallsIn Fence.wide 5 Tryz.prog 196 #[.map mb] W fun e w' => e = .returned (.func (.func 204) #[] #[.pointer (some ⟨W.heap.size, 0, none⟩)]) ∧ w' = W.alloc (.cells #[.map mb] 256) :=
  AnyZ.keys_in Tryz.keys196 Fence.wide 5 trivial rfl mb W

set_option maxHeartbeats 1000000 in
/-- **slices.Sorted[string] AT WHAT maps.Keys[map[string]bool,string,bool] HANDED BACK FOR A MAP THAT IS NOT nil** ('w': the world AHEAD of maps.Keys' call): A NEW SLICE THAT HOLDS THE MAP's KEYS, SORTED; nil just where it has none; nothing that lay before has turned. -/
theorem Tryz.slices_Sorted_keys_195_196 {H : Type} (b nn : Nat) (D0 : DataW H) (R : Value → Option (DataW H × List MemPlace)) (w : World) (hown : w.ownsMap Tryz.prog 9 R b nn D0) (hmax : Maps.size D0 ≤ maxLen) (hbytes : Maps.size D0 * 16 ≤ 140737488355328) :
    CallsIn Fence.wide 5 Tryz.prog 195 #[.func (.func 204) #[] #[.pointer (some ⟨w.heap.size, 0, none⟩)]] (w.alloc (.cells #[.map (some b)] 256)) fun e w' => ∃ (v : Value) (ss : List (List UInt8)), e = .returned v ∧ ss.Perm (strKeys D0) ∧
      w'.ownsRow (w.alloc (.cells #[.map (some b)] 256)).heap.size 9 1 v ss.length ((ss.mergeSort (fun x y => decide (x ≤ y))).map encStr) ∧ (v = .slice none 0 0 ↔ ss = []) ∧ Below (w.alloc (.cells #[.map (some b)] 256)).heap.size (w.alloc (.cells #[.map (some b)] 256)) w' := by
  have hbl := hown.lt
  have hseq : SeqGives Fence.wide 2 Tryz.prog 204 #[.pointer (some ⟨w.heap.size, 0, none⟩)] encStr (fun ss => ss.Perm (strKeys D0)) (Maps.size D0) (w.alloc (.cells #[.map (some b)] 256)) :=
    AnyZ.keys_gives (ρ := Tryz.keys196_ren) { Tryz.keys196 with } Fence.wide _ trivial rfl (by omega) w.heap.size b nn D0 _ (by simp) (by simp) (by
      obtain ⟨es, clock, hb, Ft, hs, hD⟩ := hown
      exact ⟨es, clock, (Below.heap_alloc _ _ b hbl).trans hb, Ft, hs, hD⟩)
  exact AnyZ.sorted_in Tryz.sorted195 Fence.wide 5 trivial trivial trivial trivial rfl (by omega) (Tryz.sorts195 _) (enters_of Tryz.func203 (by kernel_rfl) rfl) 204 #[.pointer (some ⟨w.heap.size, 0, none⟩)] trivial (enters_of Tryz.func204 (by kernel_rfl) rfl) _ _ hmax hbytes _ hseq

set_option maxHeartbeats 1000000 in
/-- **.. AND FOR THE nil MAP: nil.** -/
theorem Tryz.slices_Sorted_keys_nil_195_196 (w : World) :
    CallsIn Fence.wide 5 Tryz.prog 195 #[.func (.func 204) #[] #[.pointer (some ⟨w.heap.size, 0, none⟩)]] (w.alloc (.cells #[.map none] 256)) fun e w' => ∃ (v : Value) (ss : List (List UInt8)), e = .returned v ∧ ss = [] ∧
      w'.ownsRow (w.alloc (.cells #[.map none] 256)).heap.size 9 1 v ss.length ((ss.mergeSort (fun x y => decide (x ≤ y))).map encStr) ∧ (v = .slice none 0 0 ↔ ss = []) ∧ Below (w.alloc (.cells #[.map none] 256)).heap.size (w.alloc (.cells #[.map none] 256)) w' := by
  have hseq : SeqGives Fence.wide 2 Tryz.prog 204 #[.pointer (some ⟨w.heap.size, 0, none⟩)] encStr (fun ss : List (List UInt8) => ss = []) 0 (w.alloc (.cells #[.map none] 256)) :=
    AnyZ.keys_gives_nil (ρ := Tryz.keys196_ren) { Tryz.keys196 with } Fence.wide _ trivial rfl w.heap.size _ (by simp) (by simp)
  exact AnyZ.sorted_in Tryz.sorted195 Fence.wide 5 trivial trivial trivial trivial rfl (by omega) (Tryz.sorts195 _) (enters_of Tryz.func203 (by kernel_rfl) rfl) 204 #[.pointer (some ⟨w.heap.size, 0, none⟩)] trivial (enters_of Tryz.func204 (by kernel_rfl) rfl) _ 0 (Nat.zero_le _) (by omega) _ hseq



end Go.Proofs.YtjpgjnldeafpkaaGreat

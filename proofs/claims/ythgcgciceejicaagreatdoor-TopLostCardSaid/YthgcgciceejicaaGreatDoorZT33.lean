/-
  DERIVED: THE SHELF's CONTRACTS AT THIS DUMP, IN PLAIN WORDS (tools/lay-plain.mjs out of 'TryzIterRaw.lean', which tools/lay-shelf.mjs wrote): THE SAME DECLARATIONS UNDER THE SAME NAMES: 'import', 'namespace', 'open', 'def', 'theorem' AND NOTHING ELSE: no command of the shelf's: FOR A HAND-IN. Each laying: the table of numbers ('.._ren') and one theorem, a field a fact of the dump's own or the kernel's comparison; each contract: ONE APPLICATION.
-/
import Derived.Shelf.SlIter.Nil
import Derived.Shelf.SortM.Plain
import Derived.Shelf.SortM.SortNone
import Derived.Test.YthgcgciceejicaaGreatDoorProg
namespace Go.Proofs.YthgcgciceejicaaGreatDoor
open Go.RowKit Go.Maps Go.Sort Go.Shelf
def Tryz.keys226_ren : Go.Shelf.Ren := ⟨fun | 7 => 226 | 10 => 257 | n => n, fun | 23 => 316 | 26 => 9 | 3 => 4 | 28 => 318 | 0 => 0 | 27 => 317 | 33 => 77 | 4 => 4 | n => n, fun | n => n⟩
theorem Tryz.keys226 : Go.Proofs.SlLaysZ.n7 Tryz.prog Tryz.keys226_ren := {
  mixed := by kernel_rfl
  f7 := ⟨Tryz.f226.name, by decide, Tryz.func226.trans (congrArg some (by kernel_rfl))⟩
  f10 := ⟨Tryz.f257.name, by decide, Tryz.func257.trans (congrArg some (by kernel_rfl))⟩
  t0 := Tryz.underlying0
  a0 := Tryz.isAgg0
  z0 := Tryz.sizeOf0
  v0 := Tryz.zeroValue0
  t4 := Tryz.underlying4
  a4 := Tryz.isAgg4
  z4 := Tryz.sizeOf4
  v4 := Tryz.zeroValue4
  t23 := Tryz.underlying316
  a23 := Tryz.isAgg316
  z23 := Tryz.sizeOf316
  v23 := Tryz.zeroValue316
  t26 := Tryz.underlying9
  a26 := Tryz.isAgg9
  z26 := Tryz.sizeOf9
  v26 := Tryz.zeroValue9
  t27 := Tryz.underlying317
  a27 := Tryz.isAgg317
  z27 := Tryz.sizeOf317
  v27 := Tryz.zeroValue317
  t28 := Tryz.underlying318
  a28 := Tryz.isAgg318
  z28 := Tryz.sizeOf318
  v28 := Tryz.zeroValue318
  t33 := Tryz.underlying77
  a33 := Tryz.isAgg77
  z33 := Tryz.sizeOf77
  v33 := Tryz.zeroValue77 }
def Tryz.sorted225_ren : Go.Shelf.Ren := ⟨fun | 6 => 225 | 8 => 255 | 9 => 256 | 11 => 273 | 13 => 275 | 12 => 274 | 23 => 289 | 24 => 290 | 14 => 280 | 15 => 281 | 16 => 282 | 17 => 283 | 18 => 284 | 19 => 285 | 20 => 286 | 21 => 287 | 22 => 288 | 25 => 297 | 26 => 298 | 27 => 299 | 28 => 300 | 29 => 301 | 30 => 258 | 31 => 308 | n => n, fun | 26 => 9 | 28 => 318 | 24 => 100 | 0 => 0 | 3 => 3 | 37 => 335 | 48 => 352 | 50 => 375 | 4 => 4 | 40 => 368 | 39 => 367 | 45 => 327 | 5 => 5 | 9 => 9 | 51 => 381 | 55 => 385 | 57 => 391 | 58 => 246 | 33 => 77 | n => n, fun | n => n⟩
theorem Tryz.sorted225 : Go.Proofs.SlLaysZ.n6 Tryz.prog Tryz.sorted225_ren := {
  mixed := by kernel_rfl
  f6 := ⟨Tryz.f225.name, by decide, Tryz.func225.trans (congrArg some (by kernel_rfl))⟩
  f8 := ⟨Tryz.f255.name, by decide, Tryz.func255.trans (congrArg some (by kernel_rfl))⟩
  f11 := ⟨Tryz.f273.name, by decide, Tryz.func273.trans (congrArg some (by kernel_rfl))⟩
  t0 := Tryz.underlying0
  a0 := Tryz.isAgg0
  z0 := Tryz.sizeOf0
  v0 := Tryz.zeroValue0
  t24 := Tryz.underlying100
  a24 := Tryz.isAgg100
  z24 := Tryz.sizeOf100
  v24 := Tryz.zeroValue100
  t26 := Tryz.underlying9
  a26 := Tryz.isAgg9
  z26 := Tryz.sizeOf9
  v26 := Tryz.zeroValue9
  t28 := Tryz.underlying318
  a28 := Tryz.isAgg318
  z28 := Tryz.sizeOf318
  v28 := Tryz.zeroValue318
  i26 := by kernel_rfl }
def Tryz.sort256_ren : Go.Shelf.Ren := ⟨fun | 6 => 256 | 8 => 275 | 9 => 274 | 19 => 289 | 20 => 290 | 21 => 280 | 22 => 281 | 23 => 282 | 24 => 283 | 25 => 284 | 26 => 285 | 27 => 286 | 28 => 287 | 29 => 288 | 36 => 297 | 31 => 298 | 32 => 299 | 37 => 300 | 38 => 301 | 39 => 258 | 41 => 308 | n => n, fun | 27 => 100 | 29 => 9 | 3 => 3 | 32 => 335 | 26 => 100 | 0 => 0 | 44 => 352 | 46 => 375 | 4 => 4 | 36 => 368 | 35 => 367 | 41 => 327 | 5 => 5 | 9 => 9 | 53 => 381 | 57 => 385 | 63 => 391 | 64 => 246 | n => n, fun | n => n⟩
theorem Tryz.sort256 : Go.Proofs.SlLaysM.n6 Tryz.prog Tryz.sort256_ren := {
  mixed := by kernel_rfl
  f6 := ⟨Tryz.f256.name, by decide, Tryz.func256.trans (congrArg some (by kernel_rfl))⟩
  f8 := Tryz.func275.trans (congrArg some (by kernel_rfl))
  f9 := ⟨Tryz.f274.name, by decide, Tryz.func274.trans (congrArg some (by kernel_rfl))⟩
  f19 := Tryz.func289.trans (congrArg some (by kernel_rfl))
  f20 := Tryz.func290.trans (congrArg some (by kernel_rfl))
  f21 := ⟨Tryz.f280.name, by decide, Tryz.func280.trans (congrArg some (by kernel_rfl))⟩
  f22 := ⟨Tryz.f281.name, by decide, Tryz.func281.trans (congrArg some (by kernel_rfl))⟩
  f23 := ⟨Tryz.f282.name, by decide, Tryz.func282.trans (congrArg some (by kernel_rfl))⟩
  f24 := ⟨Tryz.f283.name, by decide, Tryz.func283.trans (congrArg some (by kernel_rfl))⟩
  f25 := ⟨Tryz.f284.name, by decide, Tryz.func284.trans (congrArg some (by kernel_rfl))⟩
  f26 := ⟨Tryz.f285.name, by decide, Tryz.func285.trans (congrArg some (by kernel_rfl))⟩
  f27 := ⟨Tryz.f286.name, by decide, Tryz.func286.trans (congrArg some (by kernel_rfl))⟩
  f28 := ⟨Tryz.f287.name, by decide, Tryz.func287.trans (congrArg some (by kernel_rfl))⟩
  f29 := ⟨Tryz.f288.name, by decide, Tryz.func288.trans (congrArg some (by kernel_rfl))⟩
  f31 := Tryz.func298.trans (congrArg some (by kernel_rfl))
  f32 := Tryz.func299.trans (congrArg some (by kernel_rfl))
  f36 := ⟨Tryz.f297.name, by decide, Tryz.func297.trans (congrArg some (by kernel_rfl))⟩
  f37 := ⟨Tryz.f300.name, by decide, Tryz.func300.trans (congrArg some (by kernel_rfl))⟩
  f38 := ⟨Tryz.f301.name, by decide, Tryz.func301.trans (congrArg some (by kernel_rfl))⟩
  f39 := ⟨Tryz.f258.name, by decide, Tryz.func258.trans (congrArg some (by kernel_rfl))⟩
  f41 := ⟨Tryz.f308.name, by decide, Tryz.func308.trans (congrArg some (by kernel_rfl))⟩
  t0 := Tryz.underlying0
  a0 := Tryz.isAgg0
  z0 := Tryz.sizeOf0
  v0 := Tryz.zeroValue0
  t3 := Tryz.underlying3
  a3 := Tryz.isAgg3
  z3 := Tryz.sizeOf3
  v3 := Tryz.zeroValue3
  t4 := Tryz.underlying4
  a4 := Tryz.isAgg4
  z4 := Tryz.sizeOf4
  v4 := Tryz.zeroValue4
  t5 := Tryz.underlying5
  a5 := Tryz.isAgg5
  z5 := Tryz.sizeOf5
  v5 := Tryz.zeroValue5
  t9 := Tryz.underlying9
  a9 := Tryz.isAgg9
  z9 := Tryz.sizeOf9
  v9 := Tryz.zeroValue9
  t26 := Tryz.underlying100
  a26 := Tryz.isAgg100
  z26 := Tryz.sizeOf100
  v26 := Tryz.zeroValue100
  t27 := Tryz.underlying100
  a27 := Tryz.isAgg100
  z27 := Tryz.sizeOf100
  v27 := Tryz.zeroValue100
  t29 := Tryz.underlying9
  a29 := Tryz.isAgg9
  z29 := Tryz.sizeOf9
  v29 := Tryz.zeroValue9
  t32 := Tryz.underlying335
  a32 := Tryz.isAgg335
  z32 := Tryz.sizeOf335
  v32 := Tryz.zeroValue335
  t35 := Tryz.underlying367
  a35 := Tryz.isAgg367
  z35 := Tryz.sizeOf367
  v35 := Tryz.zeroValue367
  t36 := Tryz.underlying368
  a36 := Tryz.isAgg368
  z36 := Tryz.sizeOf368
  v36 := Tryz.zeroValue368
  t41 := Tryz.underlying327
  a41 := Tryz.isAgg327
  z41 := Tryz.sizeOf327
  v41 := Tryz.zeroValue327
  t44 := Tryz.underlying352
  a44 := Tryz.isAgg352
  z44 := Tryz.sizeOf352
  v44 := Tryz.zeroValue352
  t46 := Tryz.underlying375
  a46 := Tryz.isAgg375
  z46 := Tryz.sizeOf375
  v46 := Tryz.zeroValue375
  t53 := Tryz.underlying381
  a53 := Tryz.isAgg381
  z53 := Tryz.sizeOf381
  v53 := Tryz.zeroValue381
  t57 := Tryz.underlying385
  a57 := Tryz.isAgg385
  z57 := Tryz.sizeOf385
  v57 := Tryz.zeroValue385
  t63 := Tryz.underlying391
  a63 := Tryz.isAgg391
  z63 := Tryz.sizeOf391
  v63 := Tryz.zeroValue391
  t64 := Tryz.underlying246
  a64 := Tryz.isAgg246
  z64 := Tryz.sizeOf246
  v64 := Tryz.zeroValue246 }


/-- slices.Sort's two contracts at this dump, at the fence that asks nothing. -/
theorem Tryz.sorts225 (m : Nat) : AnyZ.SortsIn Tryz.prog Tryz.sorted225_ren Fence.wide m :=
  ⟨fun blk off cap ss W hH hblk hsz => callsIn_wide.2 (AnyM.slices_Sort_string Tryz.sort256 blk off cap ss W hH hblk hsz),
   fun p cap W => callsIn_wide.2 (AnyM.slices_Sort_string_none Tryz.sort256 p cap W)⟩

/-- **maps.Keys[map[string]bool,string,bool], at whatever map, the nil one too:** a function value over ONE NEW BLOCK, which holds the map. -/
theorem Tryz.maps_Keys_226 (mb : Option Nat) (W : World) : CallsIn Fence.wide 5 Tryz.prog 226 #[.map mb] W fun e w' => e = .returned (.func (.func 257) #[] #[.pointer (some ⟨W.heap.size, 0, none⟩)]) ∧ w' = W.alloc (.cells #[.map mb] 316) :=
  AnyZ.keys_in Tryz.keys226 Fence.wide 5 trivial rfl mb W

set_option maxHeartbeats 1000000 in
/-- **slices.Sorted[string] AT WHAT maps.Keys[map[string]bool,string,bool] HANDED BACK FOR A MAP THAT IS NOT nil** ('w': the world AHEAD of maps.Keys' call): A NEW SLICE THAT HOLDS THE MAP's KEYS, SORTED; nil just where it has none; nothing that lay before has turned. -/
theorem Tryz.slices_Sorted_keys_225_226 {H : Type} (b nn : Nat) (D0 : DataW H) (R : Value → Option (DataW H × List MemPlace)) (w : World) (hown : w.ownsMap Tryz.prog 9 R b nn D0) (hmax : Maps.size D0 ≤ maxLen) (hbytes : Maps.size D0 * 16 ≤ 140737488355328) :
    CallsIn Fence.wide 5 Tryz.prog 225 #[.func (.func 257) #[] #[.pointer (some ⟨w.heap.size, 0, none⟩)]] (w.alloc (.cells #[.map (some b)] 316)) fun e w' => ∃ (v : Value) (ss : List (List UInt8)), e = .returned v ∧ ss.Perm (strKeys D0) ∧
      w'.ownsRow (w.alloc (.cells #[.map (some b)] 316)).heap.size 9 1 v ss.length ((ss.mergeSort (fun x y => decide (x ≤ y))).map encStr) ∧ (v = .slice none 0 0 ↔ ss = []) ∧ Below (w.alloc (.cells #[.map (some b)] 316)).heap.size (w.alloc (.cells #[.map (some b)] 316)) w' := by
  have hbl := hown.lt
  have hseq : SeqGives Fence.wide 2 Tryz.prog 257 #[.pointer (some ⟨w.heap.size, 0, none⟩)] encStr (fun ss => ss.Perm (strKeys D0)) (Maps.size D0) (w.alloc (.cells #[.map (some b)] 316)) :=
    AnyZ.keys_gives (ρ := Tryz.keys226_ren) { Tryz.keys226 with } Fence.wide _ trivial rfl (by omega) w.heap.size b nn D0 _ (by simp) (by simp) (by
      obtain ⟨es, clock, hb, Ft, hs, hD⟩ := hown
      exact ⟨es, clock, (Below.heap_alloc _ _ b hbl).trans hb, Ft, hs, hD⟩)
  exact AnyZ.sorted_in Tryz.sorted225 Fence.wide 5 trivial trivial trivial trivial rfl (by omega) (Tryz.sorts225 _) (enters_of Tryz.func256 (by kernel_rfl) rfl) 257 #[.pointer (some ⟨w.heap.size, 0, none⟩)] trivial (enters_of Tryz.func257 (by kernel_rfl) rfl) _ _ hmax hbytes _ hseq

set_option maxHeartbeats 1000000 in
/-- **.. AND FOR THE nil MAP: nil.** -/
theorem Tryz.slices_Sorted_keys_nil_225_226 (w : World) :
    CallsIn Fence.wide 5 Tryz.prog 225 #[.func (.func 257) #[] #[.pointer (some ⟨w.heap.size, 0, none⟩)]] (w.alloc (.cells #[.map none] 316)) fun e w' => ∃ (v : Value) (ss : List (List UInt8)), e = .returned v ∧ ss = [] ∧
      w'.ownsRow (w.alloc (.cells #[.map none] 316)).heap.size 9 1 v ss.length ((ss.mergeSort (fun x y => decide (x ≤ y))).map encStr) ∧ (v = .slice none 0 0 ↔ ss = []) ∧ Below (w.alloc (.cells #[.map none] 316)).heap.size (w.alloc (.cells #[.map none] 316)) w' := by
  have hseq : SeqGives Fence.wide 2 Tryz.prog 257 #[.pointer (some ⟨w.heap.size, 0, none⟩)] encStr (fun ss : List (List UInt8) => ss = []) 0 (w.alloc (.cells #[.map none] 316)) :=
    AnyZ.keys_gives_nil (ρ := Tryz.keys226_ren) { Tryz.keys226 with } Fence.wide _ trivial rfl w.heap.size _ (by simp) (by simp)
  exact AnyZ.sorted_in Tryz.sorted225 Fence.wide 5 trivial trivial trivial trivial rfl (by omega) (Tryz.sorts225 _) (enters_of Tryz.func256 (by kernel_rfl) rfl) 257 #[.pointer (some ⟨w.heap.size, 0, none⟩)] trivial (enters_of Tryz.func257 (by kernel_rfl) rfl) _ 0 (Nat.zero_le _) (by omega) _ hseq



end Go.Proofs.YthgcgciceejicaaGreatDoor

/-
  DERIVED: THE SHELF's CONTRACTS AT THIS DUMP, IN PLAIN WORDS (tools/lay-plain.mjs out of 'TryzIterRaw.lean', which tools/lay-shelf.mjs wrote): THE SAME DECLARATIONS UNDER THE SAME NAMES: 'import', 'namespace', 'open', 'def', 'theorem' AND NOTHING ELSE: no command of the shelf's: FOR A HAND-IN. Each laying: the table of numbers ('.._ren') and one theorem, a field a fact of the dump's own or the kernel's comparison; each contract: ONE APPLICATION.
-/
import Derived.Shelf.SlIter.Nil
import Derived.Shelf.SortM.Plain
import Derived.Shelf.SortM.SortNone
import Derived.Ground.GgzProg
import Derived.Ground.SlgmProg
import Derived.Test.YtmoahpojchndiaaGreatProg
namespace Go.Proofs.YtmoahpojchndiaaGreat
open Go.RowKit Go.Maps Go.Sort Go.Shelf
def Tryz.keys213_ren : Go.Shelf.Ren := ⟨fun | 7 => 213 | 10 => 222 | n => n, fun | 23 => 287 | 26 => 9 | 3 => 4 | 28 => 289 | 0 => 0 | 27 => 288 | 33 => 266 | 4 => 4 | n => n, fun | n => n⟩
theorem Tryz.keys213 : Go.Proofs.SlLaysZ.n7 Tryz.prog Tryz.keys213_ren := {
  mixed := by kernel_rfl
  f7 := ⟨Tryz.f213.name, by decide, Tryz.func213.trans (congrArg some (by kernel_rfl))⟩
  f10 := ⟨Tryz.f222.name, by decide, Tryz.func222.trans (congrArg some (by kernel_rfl))⟩
  t0 := Tryz.underlying0
  a0 := Tryz.isAgg0
  z0 := Tryz.sizeOf0
  v0 := Tryz.zeroValue0
  t4 := Tryz.underlying4
  a4 := Tryz.isAgg4
  z4 := Tryz.sizeOf4
  v4 := Tryz.zeroValue4
  t23 := Tryz.underlying287
  a23 := Tryz.isAgg287
  z23 := Tryz.sizeOf287
  v23 := Tryz.zeroValue287
  t26 := Tryz.underlying9
  a26 := Tryz.isAgg9
  z26 := Tryz.sizeOf9
  v26 := Tryz.zeroValue9
  t27 := Tryz.underlying288
  a27 := Tryz.isAgg288
  z27 := Tryz.sizeOf288
  v27 := Tryz.zeroValue288
  t28 := Tryz.underlying289
  a28 := Tryz.isAgg289
  z28 := Tryz.sizeOf289
  v28 := Tryz.zeroValue289
  t33 := Tryz.underlying266
  a33 := Tryz.isAgg266
  z33 := Tryz.sizeOf266
  v33 := Tryz.zeroValue266 }
def Tryz.sorted212_ren : Go.Shelf.Ren := ⟨fun | 6 => 212 | 8 => 220 | 9 => 221 | 11 => 225 | 13 => 227 | 12 => 226 | 23 => 237 | 24 => 238 | 14 => 228 | 15 => 229 | 16 => 230 | 17 => 231 | 18 => 232 | 19 => 233 | 20 => 234 | 21 => 235 | 22 => 236 | 25 => 239 | 26 => 240 | 27 => 241 | 28 => 242 | 29 => 243 | 30 => 216 | 31 => 244 | n => n, fun | 26 => 9 | 28 => 289 | 24 => 57 | 0 => 0 | 3 => 3 | 37 => 293 | 48 => 309 | 50 => 311 | 4 => 4 | 40 => 302 | 39 => 301 | 45 => 279 | 5 => 5 | 9 => 9 | 51 => 312 | 55 => 316 | 57 => 318 | 58 => 208 | 33 => 266 | n => n, fun | n => n⟩
theorem Tryz.sorted212 : Go.Proofs.SlLaysZ.n6 Tryz.prog Tryz.sorted212_ren := {
  mixed := by kernel_rfl
  f6 := ⟨Tryz.f212.name, by decide, Tryz.func212.trans (congrArg some (by kernel_rfl))⟩
  f8 := ⟨Tryz.f220.name, by decide, Tryz.func220.trans (congrArg some (by kernel_rfl))⟩
  f11 := ⟨Tryz.f225.name, by decide, Tryz.func225.trans (congrArg some (by kernel_rfl))⟩
  t0 := Tryz.underlying0
  a0 := Tryz.isAgg0
  z0 := Tryz.sizeOf0
  v0 := Tryz.zeroValue0
  t24 := Tryz.underlying57
  a24 := Tryz.isAgg57
  z24 := Tryz.sizeOf57
  v24 := Tryz.zeroValue57
  t26 := Tryz.underlying9
  a26 := Tryz.isAgg9
  z26 := Tryz.sizeOf9
  v26 := Tryz.zeroValue9
  t28 := Tryz.underlying289
  a28 := Tryz.isAgg289
  z28 := Tryz.sizeOf289
  v28 := Tryz.zeroValue289
  i26 := by kernel_rfl }
def Tryz.sort221_ren : Go.Shelf.Ren := ⟨fun | 6 => 221 | 8 => 227 | 9 => 226 | 19 => 237 | 20 => 238 | 21 => 228 | 22 => 229 | 23 => 230 | 24 => 231 | 25 => 232 | 26 => 233 | 27 => 234 | 28 => 235 | 29 => 236 | 36 => 239 | 31 => 240 | 32 => 241 | 37 => 242 | 38 => 243 | 39 => 216 | 41 => 244 | n => n, fun | 27 => 57 | 29 => 9 | 3 => 3 | 32 => 293 | 26 => 57 | 0 => 0 | 44 => 309 | 46 => 311 | 4 => 4 | 36 => 302 | 35 => 301 | 41 => 279 | 5 => 5 | 9 => 9 | 53 => 312 | 57 => 316 | 63 => 318 | 64 => 208 | n => n, fun | n => n⟩
theorem Tryz.sort221 : Go.Proofs.SlLaysM.n6 Tryz.prog Tryz.sort221_ren := {
  mixed := by kernel_rfl
  f6 := ⟨Tryz.f221.name, by decide, Tryz.func221.trans (congrArg some (by kernel_rfl))⟩
  f8 := Tryz.func227.trans (congrArg some (by kernel_rfl))
  f9 := ⟨Tryz.f226.name, by decide, Tryz.func226.trans (congrArg some (by kernel_rfl))⟩
  f19 := Tryz.func237.trans (congrArg some (by kernel_rfl))
  f20 := Tryz.func238.trans (congrArg some (by kernel_rfl))
  f21 := ⟨Tryz.f228.name, by decide, Tryz.func228.trans (congrArg some (by kernel_rfl))⟩
  f22 := ⟨Tryz.f229.name, by decide, Tryz.func229.trans (congrArg some (by kernel_rfl))⟩
  f23 := ⟨Tryz.f230.name, by decide, Tryz.func230.trans (congrArg some (by kernel_rfl))⟩
  f24 := ⟨Tryz.f231.name, by decide, Tryz.func231.trans (congrArg some (by kernel_rfl))⟩
  f25 := ⟨Tryz.f232.name, by decide, Tryz.func232.trans (congrArg some (by kernel_rfl))⟩
  f26 := ⟨Tryz.f233.name, by decide, Tryz.func233.trans (congrArg some (by kernel_rfl))⟩
  f27 := ⟨Tryz.f234.name, by decide, Tryz.func234.trans (congrArg some (by kernel_rfl))⟩
  f28 := ⟨Tryz.f235.name, by decide, Tryz.func235.trans (congrArg some (by kernel_rfl))⟩
  f29 := ⟨Tryz.f236.name, by decide, Tryz.func236.trans (congrArg some (by kernel_rfl))⟩
  f31 := Tryz.func240.trans (congrArg some (by kernel_rfl))
  f32 := Tryz.func241.trans (congrArg some (by kernel_rfl))
  f36 := ⟨Tryz.f239.name, by decide, Tryz.func239.trans (congrArg some (by kernel_rfl))⟩
  f37 := ⟨Tryz.f242.name, by decide, Tryz.func242.trans (congrArg some (by kernel_rfl))⟩
  f38 := ⟨Tryz.f243.name, by decide, Tryz.func243.trans (congrArg some (by kernel_rfl))⟩
  f39 := ⟨Tryz.f216.name, by decide, Tryz.func216.trans (congrArg some (by kernel_rfl))⟩
  f41 := ⟨Tryz.f244.name, by decide, Tryz.func244.trans (congrArg some (by kernel_rfl))⟩
  t0 := Tryz.underlying0
  a0 := Tryz.isAgg0
  z0 := Tryz.sizeOf0
  v0 := Tryz.zeroValue0
  t3 := Tryz.underlying3
  a3 := Tryz.isAgg3
  z3 := Tryz.sizeOf3
  v3 := Tryz.zeroValue3
  t4 := Tryz.underlying4
  a4 := Tryz.isAgg4
  z4 := Tryz.sizeOf4
  v4 := Tryz.zeroValue4
  t5 := Tryz.underlying5
  a5 := Tryz.isAgg5
  z5 := Tryz.sizeOf5
  v5 := Tryz.zeroValue5
  t9 := Tryz.underlying9
  a9 := Tryz.isAgg9
  z9 := Tryz.sizeOf9
  v9 := Tryz.zeroValue9
  t26 := Tryz.underlying57
  a26 := Tryz.isAgg57
  z26 := Tryz.sizeOf57
  v26 := Tryz.zeroValue57
  t27 := Tryz.underlying57
  a27 := Tryz.isAgg57
  z27 := Tryz.sizeOf57
  v27 := Tryz.zeroValue57
  t29 := Tryz.underlying9
  a29 := Tryz.isAgg9
  z29 := Tryz.sizeOf9
  v29 := Tryz.zeroValue9
  t32 := Tryz.underlying293
  a32 := Tryz.isAgg293
  z32 := Tryz.sizeOf293
  v32 := Tryz.zeroValue293
  t35 := Tryz.underlying301
  a35 := Tryz.isAgg301
  z35 := Tryz.sizeOf301
  v35 := Tryz.zeroValue301
  t36 := Tryz.underlying302
  a36 := Tryz.isAgg302
  z36 := Tryz.sizeOf302
  v36 := Tryz.zeroValue302
  t41 := Tryz.underlying279
  a41 := Tryz.isAgg279
  z41 := Tryz.sizeOf279
  v41 := Tryz.zeroValue279
  t44 := Tryz.underlying309
  a44 := Tryz.isAgg309
  z44 := Tryz.sizeOf309
  v44 := Tryz.zeroValue309
  t46 := Tryz.underlying311
  a46 := Tryz.isAgg311
  z46 := Tryz.sizeOf311
  v46 := Tryz.zeroValue311
  t53 := Tryz.underlying312
  a53 := Tryz.isAgg312
  z53 := Tryz.sizeOf312
  v53 := Tryz.zeroValue312
  t57 := Tryz.underlying316
  a57 := Tryz.isAgg316
  z57 := Tryz.sizeOf316
  v57 := Tryz.zeroValue316
  t63 := Tryz.underlying318
  a63 := Tryz.isAgg318
  z63 := Tryz.sizeOf318
  v63 := Tryz.zeroValue318
  t64 := Tryz.underlying208
  a64 := Tryz.isAgg208
  z64 := Tryz.sizeOf208
  v64 := Tryz.zeroValue208 }


/-- slices.Sort's two contracts at this dump, at the fence that asks nothing. -/
theorem Tryz.sorts212 (m : Nat) : AnyZ.SortsIn Tryz.prog Tryz.sorted212_ren Fence.wide m :=
  ⟨fun blk off cap ss W hH hblk hsz => callsIn_wide.2 (AnyM.slices_Sort_string Tryz.sort221 blk off cap ss W hH hblk hsz),
   fun p cap W => callsIn_wide.2 (AnyM.slices_Sort_string_none Tryz.sort221 p cap W)⟩

/-- **maps.Keys[map[string]bool,string,bool], at whatever map, the nil one too:** a function value over ONE NEW BLOCK, which holds the map. -/
theorem Tryz.maps_Keys_213 (mb : Option Nat) (W : World) : CallsIn Fence.wide 5 Tryz.prog 213 #[.map mb] W fun e w' => e = .returned (.func (.func 222) #[] #[.pointer (some ⟨W.heap.size, 0, none⟩)]) ∧ w' = W.alloc (.cells #[.map mb] 287) :=
  AnyZ.keys_in Tryz.keys213 Fence.wide 5 trivial rfl mb W

set_option maxHeartbeats 1000000 in
/-- **slices.Sorted[string] AT WHAT maps.Keys[map[string]bool,string,bool] HANDED BACK FOR A MAP THAT IS NOT nil** ('w': the world AHEAD of maps.Keys' call): A NEW SLICE THAT HOLDS THE MAP's KEYS, SORTED; nil just where it has none; nothing that lay before has turned. -/
theorem Tryz.slices_Sorted_keys_212_213 {H : Type} (b nn : Nat) (D0 : DataW H) (R : Value → Option (DataW H × List MemPlace)) (w : World) (hown : w.ownsMap Tryz.prog 9 R b nn D0) (hmax : Maps.size D0 ≤ maxLen) (hbytes : Maps.size D0 * 16 ≤ 140737488355328) :
    CallsIn Fence.wide 5 Tryz.prog 212 #[.func (.func 222) #[] #[.pointer (some ⟨w.heap.size, 0, none⟩)]] (w.alloc (.cells #[.map (some b)] 287)) fun e w' => ∃ (v : Value) (ss : List (List UInt8)), e = .returned v ∧ ss.Perm (strKeys D0) ∧
      w'.ownsRow (w.alloc (.cells #[.map (some b)] 287)).heap.size 9 1 v ss.length ((ss.mergeSort (fun x y => decide (x ≤ y))).map encStr) ∧ (v = .slice none 0 0 ↔ ss = []) ∧ Below (w.alloc (.cells #[.map (some b)] 287)).heap.size (w.alloc (.cells #[.map (some b)] 287)) w' := by
  have hbl := hown.lt
  have hseq : SeqGives Fence.wide 2 Tryz.prog 222 #[.pointer (some ⟨w.heap.size, 0, none⟩)] encStr (fun ss => ss.Perm (strKeys D0)) (Maps.size D0) (w.alloc (.cells #[.map (some b)] 287)) :=
    AnyZ.keys_gives (ρ := Tryz.keys213_ren) { Tryz.keys213 with } Fence.wide _ trivial rfl (by omega) w.heap.size b nn D0 _ (by simp) (by simp) (by
      obtain ⟨es, clock, hb, Ft, hs, hD⟩ := hown
      exact ⟨es, clock, (Below.heap_alloc _ _ b hbl).trans hb, Ft, hs, hD⟩)
  exact AnyZ.sorted_in Tryz.sorted212 Fence.wide 5 trivial trivial trivial trivial rfl (by omega) (Tryz.sorts212 _) (enters_of Tryz.func221 (by kernel_rfl) rfl) 222 #[.pointer (some ⟨w.heap.size, 0, none⟩)] trivial (enters_of Tryz.func222 (by kernel_rfl) rfl) _ _ hmax hbytes _ hseq

set_option maxHeartbeats 1000000 in
/-- **.. AND FOR THE nil MAP: nil.** -/
theorem Tryz.slices_Sorted_keys_nil_212_213 (w : World) :
    CallsIn Fence.wide 5 Tryz.prog 212 #[.func (.func 222) #[] #[.pointer (some ⟨w.heap.size, 0, none⟩)]] (w.alloc (.cells #[.map none] 287)) fun e w' => ∃ (v : Value) (ss : List (List UInt8)), e = .returned v ∧ ss = [] ∧
      w'.ownsRow (w.alloc (.cells #[.map none] 287)).heap.size 9 1 v ss.length ((ss.mergeSort (fun x y => decide (x ≤ y))).map encStr) ∧ (v = .slice none 0 0 ↔ ss = []) ∧ Below (w.alloc (.cells #[.map none] 287)).heap.size (w.alloc (.cells #[.map none] 287)) w' := by
  have hseq : SeqGives Fence.wide 2 Tryz.prog 222 #[.pointer (some ⟨w.heap.size, 0, none⟩)] encStr (fun ss : List (List UInt8) => ss = []) 0 (w.alloc (.cells #[.map none] 287)) :=
    AnyZ.keys_gives_nil (ρ := Tryz.keys213_ren) { Tryz.keys213 with } Fence.wide _ trivial rfl w.heap.size _ (by simp) (by simp)
  exact AnyZ.sorted_in Tryz.sorted212 Fence.wide 5 trivial trivial trivial trivial rfl (by omega) (Tryz.sorts212 _) (enters_of Tryz.func221 (by kernel_rfl) rfl) 222 #[.pointer (some ⟨w.heap.size, 0, none⟩)] trivial (enters_of Tryz.func222 (by kernel_rfl) rfl) _ 0 (Nat.zero_le _) (by omega) _ hseq



end Go.Proofs.YtmoahpojchndiaaGreat

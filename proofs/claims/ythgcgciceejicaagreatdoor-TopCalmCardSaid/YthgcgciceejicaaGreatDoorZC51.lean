/-
  How a walk by certificates ends a law.
-/
import Derived.Test.YthgcgciceejicaaGreatDoorZC48
namespace Go.Proofs.YthgcgciceejicaaGreatDoor
open Go.RowKit
theorem RS.of_sl {w:World} {k:Nat} {v:Value} {l:List (List Value)} (h:Sl w k v l):RS ⟨w,[]⟩ k v l:=by
 rcases h with h | ⟨b,off,cap,e,h1,h2,hb,hc⟩
 ·exact .inl h
 ·exact .inr ⟨b,off,cap,e,h1,h2,hb,by simp,λi r hi j u hj=>hc i r hi j u hj⟩
theorem RawsOf.rs {w:World} {v:Value} {l:List RawD} (h:RawsOf w v l):RS ⟨w,[]⟩ 4 v (l.map RawD.cs):=RS.of_sl h.1
open Go.ChangeShapes Go.WideShapes Go.ChangeAt Go.RowKit Go.Deep
def IntsOf (w:World) (v:Value) (l:List Int):Prop:=Sl w 1 v (yX l) /\ ∀ x∈l,-9223372036854775808 <= x /\ x <= 9223372036854775807
theorem IntsOf.rs {w:World} {v:Value} {l:List Int} (h:IntsOf w v l):RS ⟨w,[]⟩ 1 v (yX l):=RS.of_sl h.1
section
variable {H:Type} {enc:TypeId × Value -> H} {w:World} {base:Nat} {sp:Nat -> Bool} {held:Bool}
set_option maxRecDepth 100000 in
theorem open_intr {r:Reach} {b0:Nat} {v:Value} {d:DataW H} {p:List MemPlace} (hv:Value.okWide Tryz.prog w r b0 62 v) (h:DataW.Trod enc Tryz.prog w 0 (λ_=>true) held 62 v d p):∃ l:List Int,IntsOf w v l:=by
 obtain ⟨a,len,cap,rfl⟩:=okWide_slice Tryz.underlying62 hv;obtain ⟨fuel,hf⟩:=h;rcases open_ints Tryz.underlying62 Tryz.underlying3 (by kernel_rfl) hf with ⟨hcs,_⟩ | ⟨x,l,c,zs,hcs,-,hl,hm,hlen,-,hc,hw⟩
 ·simp [Value.cells] at hcs;obtain ⟨rfl,rfl,rfl⟩:=hcs;exact ⟨[],.inl ⟨none,0,rfl,λ_=>rfl,Mj _,rfl⟩,by simp⟩
 ·simp [Value.cells] at hcs;obtain ⟨rfl,rfl,rfl⟩:=hcs;simp at hlen;refine ⟨zs.take len,?_,λy hy=>?_⟩
  ·rcases Nat.eq_zero_or_pos len with h0 | hpos
   ·left; subst h0
    exact ⟨some x,cap,rfl,(λk=>by cases k),hm,rfl⟩
   ·right
    have c0:=hc 0 (by omega);obtain ⟨b,off,spot⟩:=x;have hb:b < w.heap.size:=Zw w ⟨b,off,spot⟩ (by simpa [Addr.add] using c0);have hs:spot=none:=by
     cases spot with
     | none=>rfl
     | some k =>
      exfalso
      simp only [Addr.add,if_true] at c0;unfold World.cell? at c0
      split at c0 <;> simp at c0
    subst hs;have hll:(yX (zs.take len)).length=len:=by rw [Ij,Fk]; omega
    refine ⟨b,off,cap,by rw [hll],by rw [hll]; exact hl,hm,hb,λi r hi j u hj=>?_⟩;rw [Nj] at hi;obtain ⟨q,hq,rfl⟩:=Ew.1 hi;have hlt:i < len:=by
     have:=(Oj.1 hq).1; rw [Fk] at this; omega
    obtain rfl:j=0:=by have:=(Oj.1 hj).1; simp at this; omega
    obtain rfl:Value.int .i64 q=u:=by simpa using hj
    have hci:=hc i (by omega);rw [List.getElem?_take_of_lt hlt] at hq;have ad:∀ n,(⟨b,off,none⟩:Addr).add n=⟨b,off + n,none⟩:=by intro n; unfold Addr.add; split <;> simp_all
    rw [ad,Tk,hq] at hci;rw [Nat.mul_one,Nv]; exact hci
  ·have:=hw y (List.mem_of_mem_take hy)
   exact ⟨int_lo this,int_hi this⟩
end
end Go.Proofs.YthgcgciceejicaaGreatDoor

/-
  How a law's argument of type []Raw is opened: a slice of rows.
-/
import Derived.Test.YthgcgciceejicaaGreatDoorZF9
import Derived.Test.YthgcgciceejicaaGreatDoorZF4
namespace Go.Proofs.YthgcgciceejicaaGreatDoor
open Go.ChangeShapes Go.WideShapes Go.ChangeAt Go.RowKit Go.Deep
@[reducible] def RawD.cells (r:RawD):List Value:=[.int .i64 r.k,.int .i64 r.a,.int .i64 r.b,.string r.t]
def RawsOf (w:World) (v:Value) (l:List RawD):Prop:=Sl w 4 v (l.map RawD.cells)/\l.length * 40<=reachBytes/\∀ r∈l,r.ok
section
variable {H:Type} {enc:TypeId × Value->H} {w:World} {base:Nat} {sp:Nat->Bool} {held:Bool}
set_option maxRecDepth 100000 in
theorem open_rows {r:Reach} {b0:Nat} {v:Value} {d:DataW H} {p:List MemPlace} (hv:Value.okWide Tryz.prog w r b0 22 v) (h:DataW.Trod enc Tryz.prog w 0 (λ_=>true) held 22 v d p)
  (hz:∀ es ss,d=.slice es ss->(es.length + ss.length) * Tryz.prog.bytesOf 24<=reachBytes):∃ l:List RawD,RawsOf w v l:=by
 obtain ⟨a,len,cap,rfl⟩:=okWide_slice Tryz.underlying22 hv;obtain ⟨fuel,hf⟩:=h;rcases open_slice_fields Tryz.underlying22 Tryz.underlying24 (by kernel_rfl) cellsRaw hf with ⟨hcs,_⟩ | ⟨x,l,c,m,D,Pl,hcs,_,hl,hm,hmm,hx,hi⟩
 ·simp [Value.cells] at hcs;obtain ⟨rfl,rfl,rfl⟩:=hcs;exact ⟨[],.inl ⟨none,0,rfl,λ_=>rfl,Mj _,rfl⟩,by simp,by simp⟩
 ·simp [Value.cells] at hcs;obtain ⟨rfl,rfl,rfl⟩:=hcs;simp only [Pk] at hx;have hw:=hz _ _ hx.1;rw [bytesRaw] at hw;simp at hmm;subst hmm;simp only [Gj,List.length_range] at hw;have hcap:m * 40<=reachBytes:=by rw [show len + (m - len)=m by omega] at hw; exact hw
  have one:∀ i,i < len->∃ q:RawD,q.ok/\w.cell? (x.add (i * 4))=some (.int .i64 q.k)/\w.cell? (x.add (i * 4 + 1))=some (.int .i64 q.a)/\w.cell? (x.add (i * 4 + 2))=some (.int .i64 q.b)/\w.cell? (x.add (i * 4 + 3))=some (.string q.t):=by
   intro i hlt;obtain ⟨ys,n,-,-,-,hf⟩:=hi i (by omega);obtain ⟨v0,y0,c0,-,t0⟩:=hf 0 _ rfl;obtain ⟨v1,y1,c1,-,t1⟩:=hf 1 _ rfl;obtain ⟨v2,y2,c2,-,t2⟩:=hf 2 _ rfl;obtain ⟨v3,y3,c3,-,t3⟩:=hf 3 _ rfl;obtain ⟨n0,e0,-,w0⟩:=DataW.trod_int Tryz.underlying3 t0;obtain ⟨n1,e1,-,w1⟩:=DataW.trod_int Tryz.underlying3 t1;obtain ⟨n2,e2,-,w2⟩:=DataW.trod_int Tryz.underlying3 t2;obtain ⟨s,e3,-,w3⟩:=DataW.trod_string Tryz.underlying9 t3;simp only [Ck,Ek] at e0 e1 e2 e3;subst e0 e1 e2 e3;exact ⟨⟨n0,n1,n2,s⟩,⟨⟨int_lo w0,int_hi w0⟩,⟨int_lo w1,int_hi w1⟩,⟨int_lo w2,int_hi w2⟩,w3⟩,c0,c1,c2,c3⟩
  haveI:Inhabited RawD:=⟨⟨0,0,0,ByteArray.empty⟩⟩
  obtain ⟨f,hfn⟩:=choose_lt one;refine ⟨(List.range len).map f,?_,by simp; omega,?_⟩
  ·rcases Nat.eq_zero_or_pos len with h0 | hpos
   ·left; subst h0
    exact ⟨some x,m,rfl,(λk=>by cases k),hm,rfl⟩
   ·right
    have c0:=(hfn 0 hpos).2.1;obtain ⟨b,off,spot⟩:=x;have hb:b < w.heap.size:=Cx w ⟨b,off,spot⟩ (by simpa [Addr.add] using c0);have hs:spot=none:=by
     cases spot with
     | none=>rfl
     | some k =>
      exfalso
      simp only [Nat.zero_mul,Addr.add,if_true] at c0;unfold World.cell? at c0
      split at c0 <;> simp at c0
    subst hs;refine ⟨b,off,m,by simp,by simpa using hl,hm,hb,λi r hi j u hj=>?_⟩;rw [Nj] at hi;obtain ⟨q,hq,rfl⟩:=Pw.1 hi;have hlt:i < len:=by
     have:=(Qj.1 hq).1; simpa using this
    have e:f i=q:=by simpa [hlt] using hq
    subst e;obtain ⟨-,k0,k1,k2,k3⟩:=hfn i hlt;have ad:∀ n,(⟨b,off,none⟩:Addr).add n=⟨b,off + n,none⟩:=by intro n; unfold Addr.add; split <;> simp_all
    rw [ad] at k0 k1 k2 k3
    match j,hj with
    | 0,hj=>simp [RawD.cells] at hj; subst hj; exact k0
    | 1,hj=>simp [RawD.cells] at hj; subst hj; rw [Nat.add_assoc]; exact k1
    | 2,hj=>simp [RawD.cells] at hj; subst hj; rw [Nat.add_assoc]; exact k2
    | 3,hj=>simp [RawD.cells] at hj; subst hj; rw [Nat.add_assoc]; exact k3
  ·intro r hr;obtain ⟨i,hi',rfl⟩:=Rj.1 hr;exact (hfn i (by simpa using hi')).1
end
end Go.Proofs.YthgcgciceejicaaGreatDoor

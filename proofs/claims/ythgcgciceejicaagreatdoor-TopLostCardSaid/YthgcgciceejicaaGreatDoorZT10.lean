/-
  Contracts of the raw things' generator: next.
-/
import Derived.Test.YthgcgciceejicaaGreatDoorZT9
import Derived.Test.YthgcgciceejicaaGreatDoorZT7
namespace Go.Proofs.YthgcgciceejicaaGreatDoor
open Go.RowKit
set_option linter.unusedVariables false
@[reducible] def RawD.cs (r:RawD):List Value:=[Vi r.k,Vi r.a,Vi r.b,.string r.t]
def aJ (l:List RawD) (n:Nat):RawD:=match l[n % l.length]? with
 | some r=>{ r with a:=IntKind.i64.wrap (r.a + (n / l.length:Nat)) }
 | none=>⟨0,0,0,⟨#[]⟩⟩
def bJ (l:List RawD) (n:Nat):Nat:=if l=[] then n else n + 1
set_option maxRecDepth 100000 in
theorem gen_next_some (g:Nat) (l:List RawD) (sl:Value) (n:Nat) (h:Vw) (hr:RS h 4 sl (l.map RawD.cs)) (hl:l≠[]) (hn:n < 1000000) (hlen:l.length * 40 <= reachBytes) :
  C1 Tryz.prog 36 #[.pointer (some ⟨g,0,none⟩)] h g [sl,Vi (n:Int)] (λv cs' _=>v=(aJ l n).val /\ cs'=[sl,Vi ((n + 1:Nat):Int)]):=by
 have hp:0 < l.length:=List.length_pos_iff.2 hl;have hm:n % l.length < l.length:=Nat.mod_lt _ hp;obtain ⟨r,hri⟩:∃ r,l[n % l.length]?=some r:=⟨_,Gj hm⟩;have hv:(aJ l n).val=.agg #[Vi r.k,Vi (IntKind.i64.wrap (r.a + (n / l.length:Nat))),Vi r.b,.string r.t]:=by unfold aJ; rw [hri]
 rw [hv];have hrow:(l.map RawD.cs)[n % l.length]?=some [Vi r.k,Vi r.a,Vi r.b,.string r.t]:=by rw [Oj,hri]; rfl
 obtain ⟨A,cap,rfl,hc1,hc2,-⟩:=hr.form;rw [Ij] at *;have hq:n / l.length <= n:=Nat.div_le_self _ _;simp only [reachBytes] at hlen;generalize hL:l.length=len at *;have hne:((len:Int) == 0)=false:=by rw [Lj]; omega
 refine pQ Tryz.func36 λhbx hbad Q hQ=>?_;refine go1 16 [.own,.b 1 0] [] ?_;intro b1;refine tQ (t:=(len:Int) == 0) (hne) ?_;refine go0 3 [] [] ?_;obtain ⟨b2,o3,rfl,-,c4⟩:=RS.row hr (hrow);refine qQ (c4.sees (Sees.refl _)) ?_;refine fV 18 1 [.pu,.pu,.pu,.ld 2 0,.pu,.pu,.pu,.ld 2 1,.pu,.pu,.pu,.ld 2 0,.pu,.v (λgh=>Vi ((n % len:Nat):Int)),.v (λgh=>.pointer (some ⟨b2,o3 + (n % len) * 4,none⟩)),.lf 0 0,.al 0,.st 0 0] [(16,true)] (trivial) ?_ ?_
 ·intro R hT hA hmono;refine Aj (t_p hT hA (λgh=>Vi ((n % len:Nat):Int)) (λgh w=>run_bin (op:=.rem) (t:=3) (x:=(.tmp 18)) (y:=(.tmp 23)) (yt:=3) (by kernel_rfl) (by kernel_rfl) (by kernel_rfl) (by kernel_rfl) (run_rem (n:Int) (len:Int) w (by omega) (by omega)))) ?_;refine Aj (bZ hT hA b2 o3 len cap (n % len) (λgh=>.pointer (some ⟨b2,o3 + (n % len) * 4,none⟩)) (by first | omega | (simp; omega))) ?_
  trivial
 rintro b5 W6 S7 -;refine go0 2 [] [] ?_;refine fV 15 0 [.pu,.ld 0 1,.pu,.pu,.pu,.ld 2 1,.pu,.pu,.pu,.ld 2 0,.pu,.v (λgh=>Vi ((n:Int) / (len:Int))),.v (λgh=>Vi (IntKind.i64.wrap (r.a + ((n / len:Nat):Int)))),.pu,.st 0 1] [] (trivial) ?_ ?_
 ·intro R hT hA hmono;refine Aj (t_p hT hA (λgh=>Vi ((n:Int) / (len:Int))) (λgh w=>run_bin (op:=.quo) (t:=3) (x:=(.tmp 32)) (y:=(.tmp 37)) (yt:=3) (by kernel_rfl) (by kernel_rfl) (by kernel_rfl) (by kernel_rfl) (run_quo (n:Int) (len:Int) w (by omega) (by omega)))) ?_;refine Aj (aZ hT hA (λgh=>Vi (IntKind.i64.wrap (r.a + ((n / len:Nat):Int)))) (λgh=>Vi (IntKind.i64.wrap (r.a + ((n:Int) / (len:Int))))) (λgh=>rfl)) ?_
  trivial
 rintro W8 S9 -;refine go0 20 [.b 2 1,.b 2 1,.b 0 0,.b 1 0] [(45,Vi (IntKind.i64.wrap ((n:Int) + 1)),Vi ((n:Int) + 1))] ?_ (hc:=(Aj (jJ (by omega) (by omega)) (trivial)));refine hQ.toB [.agg #[Vi r.k,Vi (IntKind.i64.wrap (r.a + ((n / len:Nat):Int))),Vi r.b,.string r.t]] [[.slice (some ⟨b2,o3,none⟩) len cap,Vi ((n:Int) + 1)]] (λH sH=>?_) (ix:=[1]);exact ⟨_,rfl,rfl,rfl⟩
end Go.Proofs.YthgcgciceejicaaGreatDoor

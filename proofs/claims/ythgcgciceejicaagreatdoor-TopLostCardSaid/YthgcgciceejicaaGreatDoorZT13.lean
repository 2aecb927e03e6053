/-
  Contracts of the law's own clean and Value. The contract of the law's own Value: a value of the type, told by the raw thing alone.
-/
import Derived.Test.YthgcgciceejicaaGreatDoorZT12
import Derived.Test.YthgcgciceejicaaGreatDoorZT9
set_option maxHeartbeats 1000000
namespace Go.Proofs.YthgcgciceejicaaGreatDoor
open Go.RowKit
def cleanL (s:ByteArray) (m:Nat):List UInt8:=(s.data.toList.take m).map (λc=>32 + c % 95)
def cleanS (s:ByteArray) (m:Nat):ByteArray:=⟨(cleanL s m).toArray⟩
theorem clean_len (s:ByteArray) (m:Nat):(cleanL s m).length=min m s.size:=by
 show (List.map _ (List.take m s.data.toList)).length=_;rw [Ij,Ck,Array.length_toList]; rfl
theorem clean_byte (c:UInt8):(((32 + c % 95:UInt8).toNat:Nat):Int)=32 + (c.toNat:Int) % 95:=by
 have h:(32 + c % 95:UInt8).toNat=32 + c.toNat % 95:=by
  rw [UInt8.toNat_add,UInt8.toNat_mod]
  have:c.toNat % 95 < 95:=Nat.mod_lt _ (by omega)
  show (32 + c.toNat % 95) % 256=_;omega
 rw [h]; omega
def xJ (s:ByteArray) (j:Nat):Int:=((s.data.toList[j]?.getD 0).toNat:Int)
theorem byteAt_bd (s:ByteArray) (j:Nat):0<=xJ s j/\xJ s j<=255:=by
 unfold xJ
 have:=UInt8.toNat_lt (s.data.toList[j]?.getD 0)
 omega
theorem bytes_new (w:World) (x:ByteArray) (n c:Nat) (t:TypeId) (hn:n<=x.size) :
  (∀ j,j < n->(w.alloc (.cells (bytesRow x c) t ((bytesRow x c).size,(bytesRow x c).size + 1))).drew.cell? ⟨w.heap.size,j,none⟩=some (.int .u8 (xJ x j))) /\
  (∀ j,j < n->(w.alloc (.cells (bytesRow x c) t ((bytesRow x c).size,(bytesRow x c).size + 1))).drew.frozen? ⟨w.heap.size,j,none⟩=false):=by
 have hsz:x.size<=(bytesRow x c).size:=by
  unfold bytesRow;rw [Array.size_append,Array.size_map];exact Nat.le_add_right _ _
 refine ⟨λj hj=>?_,λj hj=>?_⟩
 ·show (w.alloc _).cell? _=_;have hj':j < x.data.size:=Cq hj hn;rw [World.cell?_alloc_mark,bytesRow_at x c j hj'];simp [xJ,Array.getElem?_eq_getElem hj']
 ·show (w.alloc _).frozen? _=_;rw [World.frozen?_alloc_mark]
  simp; omega
def Done (wr:World) (B:Nat) (g:Nat->Int) (k:Nat):Prop:=∀ j,j < k->wr.cell? ⟨B,j,none⟩=some (.int .u8 (32 + g j % 95))
def ToDo (wr:World) (B n:Nat) (g:Nat->Int) (k:Nat):Prop:=∀ j,k<=j->j < n->wr.cell? ⟨B,j,none⟩=some (.int .u8 (g j))
def Free (wr:World) (B n:Nat):Prop:=∀ j,j < n->wr.frozen? ⟨B,j,none⟩=false
theorem clean_step {wr:World} {B n k:Nat} {g:Nat->Int} {q:Int} (hq:g k=q) (hk:k < n) (h1:Done wr B g k) (h2:ToDo wr B n g k) (h3:Free wr B n) :
  Done (wr.setCell ⟨B,k,none⟩ (.int .u8 (32 + q % 95))) B g (k + 1)/\ToDo (wr.setCell ⟨B,k,none⟩ (.int .u8 (32 + q % 95))) B n g (k + 1)/\Free (wr.setCell ⟨B,k,none⟩ (.int .u8 (32 + q % 95))) B n:=by
 refine ⟨λj hj=>?_,λj hj hn=>?_,λj hj=>?_⟩
 ·by_cases e:j=k
  ·subst e;rw [World.cell?_setCell_same _ _ _ (h2 j (Hj _) hk),hq]
  ·rw [World.cell?_setCell_other _ _ _ _ (by first | (simp; done) | (simp; omega))];exact h1 j (by omega)
 ·rw [World.cell?_setCell_other _ _ _ _ (by first | (simp; done) | (simp; omega))];exact h2 j (by omega) hn
 ·rw [World.frozen?_setCell];exact h3 j hj
theorem clean_back {wr:World} {B n c:Nat} {s x:ByteArray} (hn:n=min 8 s.size) (hx:∀ j,j < n->xJ x j=xJ s j) (h:Done wr B (xJ x) n) :
  (convert 103 9 (.slice (some ⟨B,0,none⟩) n c)).run Tryz.prog wr=.ok (.string (cleanS s 8)) wr:=by
 have hl:=clean_len s 8
 have:=run_convert_bytes_back (P:=Tryz.prog) wr 103 9 5 ⟨B,0,none⟩ c (cleanL s 8) Tryz.underlying103 Tryz.underlying5 Tryz.underlying9 (λj hj=>by
  have hj':j < n:=by omega
  have ad:(⟨B,0,none⟩:Addr).add j=⟨B,j,none⟩:=by unfold Addr.add; split <;> simp_all
  rw [ad,h j hj',hx j hj'];have hjs:j < s.data.toList.length:=by
   have:s.data.toList.length=s.size:=by rw [Array.length_toList]; rfl
   omega
  have e1:(cleanL s 8)[j]=32 + s.data.toList[j] % 95:=by simp [cleanL]
  have e2:xJ s j=(s.data.toList[j].toNat:Int):=by simp [xJ,List.getElem?_eq_getElem hjs]
  rw [e1,clean_byte,e2])
 rw [hl,<- hn] at this;exact this
theorem ext8 {s:ByteArray} (h:8 < s.size):8<=(s.extract 0 8).size:=by simp; omega
theorem ext_byte {s:ByteArray} {j:Nat} (h:j < 8):xJ (s.extract 0 8) j=xJ s j:=by
 unfold xJ;rw [show (s.extract 0 8).data.toList=s.data.toList.take 8 from by simp [ByteArray.data_extract],List.getElem?_take_of_lt h]
theorem clean_short (s:ByteArray) (w:World) (hs:s.size<=9223372036854775807) (h8:s.size<=8) :
  Calls Tryz.prog 46 #[.string s,.int .i64 8] w (Gives (.string (cleanS s 8)) w):=by
 have hcv:=λ(w:World) (x:ByteArray)=>run_bytes_of_string (P:=Tryz.prog) w 9 103 5 x Tryz.underlying9 Tryz.underlying103 Tryz.underlying5
 go_enter Tryz.func46,Tryz.ntmps46
 go_wp2
 have hB:=bytes_new w s s.size (grownCap w s.size 0 5) 5 (by exact Hj _);have hbw:Below w.heap.size w (w.alloc (.cells (bytesRow s (grownCap w s.size 0 5)) 5 ((bytesRow s (grownCap w s.size 0 5)).size,(bytesRow s (grownCap w s.size 0 5)).size + 1))).drew:=((Wj _ _).alloc (Hj _) _).drew;generalize (w.alloc (.cells (bytesRow s (grownCap w s.size 0 5)) 5 ((bytesRow s (grownCap w s.size 0 5)).size,(bytesRow s (grownCap w s.size 0 5)).size + 1))).drew=W1 at *;generalize grownCap w s.size 0 5=cap;obtain ⟨hB1,hB2⟩:=hB;clear hcv
 go_loopw [17] (λi wr=>∃ k:Nat,k<=s.size/\i=.int .i64 k/\Done wr w.heap.size (xJ s) k/\ToDo wr w.heap.size s.size (xJ s) k/\Free wr w.heap.size s.size/\Below w.heap.size w wr) (λi _=>s.size - (intOf i).toNat)
 case atStart=>exact ⟨0,Mj _,rfl,λj hj=>absurd hj (Mv _),λj _ hj=>hB1 j hj,hB2,hbw⟩
 case round =>
  clear hB1 hB2 hbw;obtain ⟨k,hk,rfl,h1,h2,h3,hbr⟩:=hrel
  by_cases hlt:k < s.size
  ·have c0:=h2 k (Hj _) hlt;have f0:=h3 k hlt;have bd:=byteAt_bd s k;obtain ⟨q,hq⟩:∃ q,xJ s k=q:=⟨_,rfl⟩;rw [hq] at c0 bd;obtain ⟨q0,q1⟩:=bd;have R:=Fj (clean_step hq hlt h1 h2 h3);clear h1 h2 h3 hq
   go_wp2
   go_roundw
   case rel=>exact ⟨k + 1,by omega,by go_num,R.out.1,R.out.2.1,R.out.2.2,hbr.setCell (Hj _) _⟩
   case measure=>simp [intOf]; omega
  ·obtain rfl:k=s.size:=by omega
   have hback:=clean_back (s:=s) (x:=s) (c:=cap) (by omega) (by intros; rfl) h1;clear h1 h2 h3
   go_wp2
   go_ret
   exact ⟨rfl,hbr⟩
theorem clean_long (s:ByteArray) (w:World) (hs:s.size<=9223372036854775807) (h8:8 < s.size) :
  Calls Tryz.prog 46 #[.string s,.int .i64 8] w (Gives (.string (cleanS s 8)) w):=by
 have hcv:=λ(w:World) (x:ByteArray)=>run_bytes_of_string (P:=Tryz.prog) w 9 103 5 x Tryz.underlying9 Tryz.underlying103 Tryz.underlying5;have hm:min 8 s.size=8:=by omega
 go_enter Tryz.func46,Tryz.ntmps46
 go_wp2
 have hB:=bytes_new w (s.extract 0 8) 8 (grownCap w 8 0 5) 5 (by exact ext8 h8);have hbw:Below w.heap.size w (w.alloc (.cells (bytesRow (s.extract 0 8) (grownCap w 8 0 5)) 5 ((bytesRow (s.extract 0 8) (grownCap w 8 0 5)).size,(bytesRow (s.extract 0 8) (grownCap w 8 0 5)).size + 1))).drew:=((Wj _ _).alloc (Hj _) _).drew;generalize (w.alloc (.cells (bytesRow (s.extract 0 8) (grownCap w 8 0 5)) 5 ((bytesRow (s.extract 0 8) (grownCap w 8 0 5)).size,(bytesRow (s.extract 0 8) (grownCap w 8 0 5)).size + 1))).drew=W1 at *;generalize grownCap w 8 0 5=cap;obtain ⟨hB1,hB2⟩:=hB;clear hcv
 go_loopw [17] (λi wr=>∃ k:Nat,k<=8/\i=.int .i64 k/\Done wr w.heap.size (xJ (s.extract 0 8)) k/\ToDo wr w.heap.size 8 (xJ (s.extract 0 8)) k/\Free wr w.heap.size 8/\Below w.heap.size w wr) (λi _=>8 - (intOf i).toNat)
 case atStart=>exact ⟨0,Mj _,rfl,λj hj=>absurd hj (Mv _),λj _ hj=>hB1 j hj,hB2,hbw⟩
 case round =>
  clear hB1 hB2 hbw;obtain ⟨k,hk,rfl,h1,h2,h3,hbr⟩:=hrel
  by_cases hlt:k < 8
  ·have c0:=h2 k (Hj _) hlt;have f0:=h3 k hlt;have bd:=byteAt_bd (s.extract 0 8) k;obtain ⟨q,hq⟩:∃ q,xJ (s.extract 0 8) k=q:=⟨_,rfl⟩;rw [hq] at c0 bd;obtain ⟨q0,q1⟩:=bd;have R:=Fj (clean_step hq hlt h1 h2 h3);clear h1 h2 h3 hq
   go_wp2
   go_roundw
   case rel=>exact ⟨k + 1,by omega,by go_num,R.out.1,R.out.2.1,R.out.2.2,hbr.setCell (Hj _) _⟩
   case measure=>simp [intOf]; omega
  ·obtain rfl:k=8:=by omega
   have hback:=clean_back (s:=s) (x:=(s.extract 0 8)) (c:=cap) (by omega) (by exact λj hj=>ext_byte hj) h1;clear h1 h2 h3
   go_wp2
   go_ret
   exact ⟨rfl,hbr⟩
theorem clean_any (s:ByteArray) (w:World) (hs:s.size<=maxLen):Calls Tryz.prog 46 #[.string s,.int .i64 8] w (Gives (.string (cleanS s 8)) w):=by
 unfold maxLen at hs;rcases Iv 8 s.size with h | h
 ·exact clean_long s w (by omega) h
 ·exact clean_short s w (by omega) h
def valN (kind rk ra:Int):Int :=
 if kind=1 then (if cJ rk 7=0 then cJ ra 2199023255553 - 1099511627776 else cJ ra 40 - 12) else if kind=2 then cJ ra 2 else 0
def valS (kind:Int) (t:ByteArray):ByteArray:=if kind=3 then cleanS t 8 else ⟨#[]⟩
theorem clean_known (t:ByteArray):(cleanS t 8).size<=40/\∀ i (h:i < (cleanS t 8).size),32<=(cleanS t 8)[i].toNat/\(cleanS t 8)[i].toNat<=126:=by
 have hl:=clean_len t 8;have hs:(cleanS t 8).size=(cleanL t 8).length:=by show (cleanL t 8).toArray.size=_; simp
 refine ⟨by omega,λi h=>?_⟩;have e:(cleanS t 8)[i]=(cleanL t 8)[i]'(by omega):=by
  rfl
 have hi:i < t.data.toList.length:=by
  have:t.data.toList.length=t.size:=by rw [Array.length_toList]; rfl
  omega
 have e2:(cleanL t 8)[i]'(by omega)=32 + t.data.toList[i] % 95:=by simp [cleanL]
 rw [e,e2]
 have:=clean_byte t.data.toList[i]
 omega
theorem val_known (kind rk ra:Int) (t:ByteArray) (h1:1<=kind) (h3:kind<=3):pJ kind (valN kind rk ra) (valS kind t):=by
 have a0:=sX ra 2199023255553 (by omega);have a1:=rX ra 2199023255553 (by omega);have b0:=sX ra 40 (by omega);have b1:=rX ra 40 (by omega);have c0:=sX ra 2 (by omega);have c1:=rX ra 2 (by omega);obtain rfl | rfl | rfl:kind=1\/kind=2\/kind=3:=by omega
 ·left
  refine ⟨rfl,?_,rfl⟩;unfold valN Lim;rw [Cj rfl]
  split <;> omega
 ·right; left
  refine ⟨rfl,?_,rfl⟩;show cJ ra 2=0\/cJ ra 2=1;omega
 ·right; right
  have:=clean_known t
  exact ⟨rfl,rfl,this.1,this.2⟩
theorem val_int (x:RawD) (w:World) (hx:x.ok):Calls Tryz.prog 15 #[.int .i64 1,.agg #[.int .i64 x.k,.int .i64 x.a,.int .i64 x.b,.string x.t]] w (Gives (.agg #[.int .i64 1,.int .i64 (valN 1 x.k x.a),.string ⟨#[]⟩]) w):=by
 obtain ⟨⟨k0,k1⟩,⟨a0,a1⟩,_,_⟩:=hx
 by_cases h:cJ x.k 7=0
 ·have e:Hid (valN 1 x.k x.a=cJ x.a 2199023255553 - 1099511627776):=by show _=_; simp [valN,h]
  have h':(cJ x.k 7 == 0)=true:=Xj.2 h;clear h;have q0:=sX x.a 2199023255553 (by omega);have q1:=rX x.a 2199023255553 (by omega)
  go_enter Tryz.func15,Tryz.ntmps15
  go_wp2_with fail
  with_reducible refine (picked_any x.k 7 _ k0 k1 (by omega) (by omega)).mono ?_
  rintro e w' ⟨rfl,rfl⟩
  go_wp2_with fail
  with_reducible refine (picked_any x.a 2199023255553 _ a0 a1 (by omega) (by omega)).mono ?_
  rintro e w' ⟨rfl,rfl⟩
  go_wp2_with fail
  refine bodyPost_ret (v:=.agg #[.int .i64 1,.int .i64 (cJ x.a 2199023255553 - 1099511627776),.string ⟨#[]⟩]) (by simp [results,Tryz.results15,go_sem]) rfl (gives_mk (by rw [e.out]) ?_);exact ((Wj _ _).alloc (Hj _) _).alloc (by simp) _
 ·have e:Hid (valN 1 x.k x.a=cJ x.a 40 - 12):=by show _=_; simp [valN,h]
  have h':(cJ x.k 7 == 0)=false:=Lj.2 h;clear h;have q0:=sX x.a 40 (by omega);have q1:=rX x.a 40 (by omega)
  go_enter Tryz.func15,Tryz.ntmps15
  go_wp2_with fail
  with_reducible refine (picked_any x.k 7 _ k0 k1 (by omega) (by omega)).mono ?_
  rintro e w' ⟨rfl,rfl⟩
  go_wp2_with fail
  with_reducible refine (picked_any x.a 40 _ a0 a1 (by omega) (by omega)).mono ?_
  rintro e w' ⟨rfl,rfl⟩
  go_wp2_with fail
  refine bodyPost_ret (v:=.agg #[.int .i64 1,.int .i64 (cJ x.a 40 - 12),.string ⟨#[]⟩]) (by simp [results,Tryz.results15,go_sem]) rfl (gives_mk (by rw [e.out]) ?_);exact ((Wj _ _).alloc (Hj _) _).alloc (by simp) _
theorem val_bool (x:RawD) (w:World) (hx:x.ok):Calls Tryz.prog 15 #[.int .i64 2,.agg #[.int .i64 x.k,.int .i64 x.a,.int .i64 x.b,.string x.t]] w (Gives (.agg #[.int .i64 2,.int .i64 (cJ x.a 2),.string ⟨#[]⟩]) w):=by
 obtain ⟨⟨k0,k1⟩,⟨a0,a1⟩,_,_⟩:=hx
 go_enter Tryz.func15,Tryz.ntmps15
 go_wp2_with fail
 with_reducible refine (picked_any x.a 2 _ a0 a1 (by omega) (by omega)).mono ?_
 rintro e w' ⟨rfl,rfl⟩
 go_wp2_with fail
 refine bodyPost_ret (v:=.agg #[.int .i64 2,.int .i64 (cJ x.a 2),.string ⟨#[]⟩]) (by simp [results,Tryz.results15,go_sem]) rfl (gives_mk rfl ?_);exact ((Wj _ _).alloc (Hj _) _).alloc (by simp) _
theorem val_text (x:RawD) (w:World) (hx:x.ok):Calls Tryz.prog 15 #[.int .i64 3,.agg #[.int .i64 x.k,.int .i64 x.a,.int .i64 x.b,.string x.t]] w (Gives (.agg #[.int .i64 3,.int .i64 0,.string (cleanS x.t 8)]) w):=by
 obtain ⟨_,_,_,ht⟩:=hx;have H:=Fj ht;clear ht;have hx:=(Box.new w #[.int .i64 x.k,.int .i64 x.a,.int .i64 x.b,.string x.t] 24).alloc (.cells #[.int .i64 0,.int .i64 0,.string ⟨#[]⟩] 44);have hy:=Box.new (w.alloc (.cells #[.int .i64 x.k,.int .i64 x.a,.int .i64 x.b,.string x.t] 24)) #[.int .i64 0,.int .i64 0,.string ⟨#[]⟩] 44;have hbw:Below w.heap.size w ((w.alloc (.cells #[.int .i64 x.k,.int .i64 x.a,.int .i64 x.b,.string x.t] 24)).alloc (.cells #[.int .i64 0,.int .i64 0,.string ⟨#[]⟩] 44)):=((Wj _ _).alloc (Hj _) _).alloc (by simp) _;have HY:=Fj hy;have HW:=Fj hbw;clear hx hy hbw
 go_enter Tryz.func15,Tryz.ntmps15
 go_wp2_with fail
 with_reducible refine (clean_any x.t _ H.out).mono ?_
 rintro e w' ⟨rfl,h1⟩;have hy1:=HY.out.keep h1;have hw1:=bthen HW.out h1;clear HY HW h1;have y0:=hy1.cells 0 _ rfl;have y1:=hy1.cells 1 _ rfl;have y2:=hy1.cells 2 _ rfl;have f0:=hy1.free 0;have f1:=hy1.free 1;have f2:=hy1.free 2;simp at y0 y1 y2 f0 f1 f2
 go_wp2_with fail
 refine bodyPost_ret (v:=.agg #[.int .i64 3,.int .i64 0,.string (cleanS x.t 8)]) (by simp [results,Tryz.results15,go_sem,y0,y1,y2]) rfl (gives_mk rfl ?_);exact ((hw1.setCell (by simp) _).setCell (by simp) _).setCell (by simp) _
theorem val_any (kind:Int) (x:RawD) (w:World) (h1:1<=kind) (h3:kind<=3) (hx:x.ok) :
  Calls Tryz.prog 15 #[.int .i64 kind,.agg #[.int .i64 x.k,.int .i64 x.a,.int .i64 x.b,.string x.t]] w (Gives (.agg #[.int .i64 kind,.int .i64 (valN kind x.k x.a),.string (valS kind x.t)]) w):=by
 obtain rfl | rfl | rfl:kind=1\/kind=2\/kind=3:=by omega
 ·exact val_int x w hx
 ·exact val_bool x w hx
 ·exact val_text x w hx
end Go.Proofs.YthgcgciceejicaaGreatDoor

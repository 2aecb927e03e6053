/-
  The tokens of a text, in plain Lean: a token is the same in every text that begins with it and goes on with a blank, ends there, or goes on as it did.
-/
import Derived.Test.YthplkompdehjlaaGreatDoorZR23
namespace Go.Proofs.YthplkompdehjlaaGreatDoor
def Behind (l:List UInt8) (n:Nat) (r:List UInt8):Prop:=r=[]∨r.head?=some 32∨r.head?=(l.drop n).head?
end Go.Proofs.YthplkompdehjlaaGreatDoor

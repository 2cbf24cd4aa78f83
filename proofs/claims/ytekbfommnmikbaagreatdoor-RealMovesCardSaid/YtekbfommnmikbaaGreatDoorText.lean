/- Plain words for texts of reals: what Parse takes, what Print writes. No program in sight. -/
import Derived.Test.YtekbfommnmikbaaGreatDoorRnd
import Derived.Test.YtekbfommnmikbaaGreatDoorR3
namespace Go.Proofs.YtekbfommnmikbaaGreatDoor
set_option linter.unusedVariables false
set_option linter.unusedSimpArgs false

/-- A decimal digit. -/
def isD (b : UInt8) : Bool := decide (48 ≤ b.toNat) && decide (b.toNat ≤ 57)
/-- The exponent's digits; 100000 at most. -/
def expo (l : List UInt8) : Nat := l.foldl (fun n b => min 100000 (10 * n + (b.toNat - 48))) 0
/-- One byte is taken, if it is one of some. -/
def skipL (f : UInt8 → Bool) (l : List UInt8) : List UInt8 × List UInt8 := match l with
  | [] => ([], [])
  | b :: t => if f b then ([b], t) else ([], b :: t)
/-- What stands behind a point. -/
def fracL (l : List UInt8) : List UInt8 × Bool × List UInt8 :=
  if (skipL (· == 46) l).1 = [] then ([], true, l) else ((skipL (· == 46) l).2.takeWhile isD, !((skipL (· == 46) l).2.takeWhile isD).isEmpty, (skipL (· == 46) l).2.dropWhile isD)
/-- Behind the letter e: a sign, digits. -/
def powL (l : List UInt8) : Int × Bool × List UInt8 :=
  let s := skipL (fun b => b == 43 || b == 45) l
  let es := s.2.takeWhile isD
  (if s.1 = [45] then -(expo es : Int) else (expo es : Int), !es.isEmpty, s.2.dropWhile isD)
def expL (l : List UInt8) : Int × Bool × List UInt8 :=
  if (skipL (· == 101) l).1 = [] then (0, true, l) else powL (skipL (· == 101) l).2
/-- What a text says: the sign, the number of all its digits, the exponent; whether it is well formed; what is left. -/
structure Scan where
  neg : Bool
  ds : List UInt8
  exp : Int
  good : Bool
  rest : List UInt8
def scanL (l : List UInt8) : Scan :=
  let a := skipL (· == 45) l
  let ds := a.2.takeWhile isD
  let f := fracL (a.2.dropWhile isD)
  let e := expL f.2.2
  ⟨!a.1.isEmpty, ds ++ f.1, -(f.1.length : Int) + e.1, decide (l.length ≤ 80) && !ds.isEmpty && f.2.1 && e.2.1, e.2.2⟩

end Go.Proofs.YtekbfommnmikbaaGreatDoor

/- Words for the proofs about bytes: what lists of bytes mean as numbers, and what a call returns. Definitions; no conditions. -/
import Derived.Test.YtmegbgnfkgebbaaWMore
import Derived.Test.YtmegbgnfkgebbaaProg
import Derived.WalkSpells
import Derived.WalkLawsBesides
import Derived.IntWalk
import Derived.Lib.Hide
import Derived.Outline
namespace Go.Proofs.Ytmegbgnfkgebbaa.V
open Go.RowKit Go.Proofs.YtmegbgnfkgebbaaW.PrintWords

/-- all numbers are bytes -/
def By (xs : List Int) : Prop := ∀ x ∈ xs, 0 ≤ x ∧ x < 256

/-- the number that bytes are, highest first, from a on, in 64 bits -/
def be (a : Int) : List Int → Int
  | [] => a
  | x :: xs => be ((a * 256 + x) % 18446744073709551616) xs

/-- what a call returns: a slice that reads as xs; nothing old has turned -/
def RetS (w : World) (k : IntKind) (xs : List Int) (e : Ending) (w' : World) : Prop :=
  ∃ A m c, e = .returned (.slice A m c) ∧ m ≤ c ∧ ReadsInt w' k A m xs ∧ Below w.heap.size w w'
def RetSE (w : World) (k : IntKind) (xs : List Int) (err : Int) (e : Ending) (w' : World) : Prop :=
  ∃ A m c, e = .returned (.tuple #[.slice A m c, .int .i64 err]) ∧ m ≤ c ∧ ReadsInt w' k A m xs ∧ Below w.heap.size w w'

/-- bytes of a number, the lowest first -/
def leB (n : Int) (k : Nat) : List Int := (List.range k).map fun i => n / 256 ^ i % 256
def beB (n : Int) (k : Nat) : List Int := (leB n k).reverse

/-- may the number n be written in size bytes? -/
def fitsB (n size : Int) : Bool := decide (1 ≤ size) && decide (size ≤ 8) && decide (0 ≤ n) && decide (n ≤ 4611686018427387904) && (decide (size = 8) || decide (n / 256 ^ size.toNat = 0))

def putL (n size : Int) : List Int := if fitsB n size = true then beB n size.toNat else []
def lowL (n size : Int) : List Int := if fitsB n size = true then leB n size.toNat else []
def putE (n size : Int) : Int := if fitsB n size = true then 0 else 2

def getN (xs : List Int) : Int := if xs.length = 0 then 0 else if 8 < xs.length then 0 else if 4611686018427387904 < be 0 xs then 0 else be 0 xs
def getE (xs : List Int) : Int := if xs.length = 0 then 10 else if 8 < xs.length then 2 else if 4611686018427387904 < be 0 xs then 11 else 0
def getLowN (xs : List Int) : Int := if 8 < xs.length then 0 else getN xs.reverse
def getLowE (xs : List Int) : Int := if 8 < xs.length then 2 else getE xs.reverse

/-- words of four bytes, the lowest first; of eight, the highest first -/
def w32 : List Int → List Int
  | a :: b :: c :: d :: xs => (a + 256 * b + 65536 * c + 16777216 * d) :: w32 xs
  | _ => []
def w64 : List Int → List Int
  | a :: b :: c :: d :: e :: f :: g :: h :: xs => be 0 [a, b, c, d, e, f, g, h] :: w64 xs
  | _ => []
def b32 : List Int → List Int
  | [] => []
  | x :: xs => [x % 256, x / 256 % 256, x / 65536 % 256, x / 16777216 % 256] ++ b32 xs
def b64 : List Int → List Int
  | [] => []
  | x :: xs => beB x 8 ++ b64 xs

end Go.Proofs.Ytmegbgnfkgebbaa.V

/-
  Plain words of the bit coder: what the writer of bits lays, what the reader of bits reads; read back is what was written.
-/
import Derived.Test.YtdeheflbigggbaaZBase
namespace Go.Proofs.Ytdeheflbigggbaa.B
open Go.RowKit Go.Proofs.YtdeheflbigggbaaW.PrintWords

def LikOk (l : List Int) : Prop := l.length = 400 ∧ ∀ x ∈ l, 31 ≤ x ∧ x ≤ 4065
def valR : List Int → Int
  | [] => 0
  | x :: xs => x + 256 * valR xs
/-- The number that bytes are, the highest first. -/
def val (l : List Int) : Int := valR l.reverse
def BytesOk (l : List Int) : Prop := ∀ x ∈ l, 0 ≤ x ∧ x ≤ 255
/-- The writer of bits. -/
structure Enc where
  lik : List Int
  low : Int
  width : Int
  out : List Int
/-- The number that has been told so far. -/
def toldE (s : Enc) : Int := 4294967296 * val s.out + s.low
structure EncOk (s : Enc) : Prop where
  lik : LikOk s.lik
  low0 : 0 ≤ s.low
  sum : s.low + s.width ≤ 8589934592
  w0 : 16777216 ≤ s.width
  w1 : s.width ≤ 4294967295
  out : BytesOk s.out
  room : toldE s + s.width < 256 ^ (s.out.length + 4)
/-- The reader of bits: how likely, the code, the width, how many bytes were read. -/
structure Dec where
  lik : List Int
  code : Int
  width : Int
  at_ : Nat
def byteAt (b : List Int) (n : Nat) : Int := if n < b.length then rd b n else 0
structure DecOk (s : Dec) : Prop where
  lik : LikOk s.lik
  c0 : 0 ≤ s.code
  c1 : s.code ≤ 4294967295
  w0 : 16777216 ≤ s.width
  w1 : s.width ≤ 4294967295
/-- The number that the first bytes are; behind the end there are noughts. -/
def numAt (b : List Int) : Nat → Int
  | 0 => 0
  | n + 1 => 256 * numAt b n + byteAt b n
/-- A reader stands where a writer stood. -/
structure Along (b : List Int) (s : Enc) (d : Dec) : Prop where
  lik : d.lik = s.lik
  width : d.width = s.width
  code : d.code = numAt b (s.out.length + 4) - toldE s
  at_ : d.at_ = s.out.length + 4
end Go.Proofs.Ytdeheflbigggbaa.B

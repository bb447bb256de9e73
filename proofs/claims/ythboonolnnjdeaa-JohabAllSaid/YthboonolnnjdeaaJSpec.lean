/- Plain functions: what package johab computes. No program in sight. -/
import Derived.Lib.Bytealg
namespace Go.Proofs.Ythboonolnnjdeaa

def ini (c : Int) : Int := if 1 ≤ c ∧ c ≤ 20 then c - 2 else 0
def iniB (c : Int) : Bool := decide (1 ≤ c ∧ c ≤ 20)
def med (c : Int) : Int :=
  if c = 2 then -1 else if 3 ≤ c ∧ c ≤ 7 then c - 3 else if 10 ≤ c ∧ c ≤ 15 then c - 5
  else if 18 ≤ c ∧ c ≤ 23 then c - 7 else if 26 ≤ c ∧ c ≤ 29 then c - 9 else 0
def medB (c : Int) : Bool := decide (2 ≤ c ∧ c ≤ 7 ∨ 10 ≤ c ∧ c ≤ 15 ∨ 18 ≤ c ∧ c ≤ 23 ∨ 26 ≤ c ∧ c ≤ 29)
def fin (c : Int) : Int := if 1 ≤ c ∧ c ≤ 17 then c - 1 else if 19 ≤ c ∧ c ≤ 29 then c - 2 else 0
def finB (c : Int) : Bool := decide (1 ≤ c ∧ c ≤ 17 ∨ 19 ≤ c ∧ c ≤ 29)
def medCode (m : Int) : Int := if m = -1 then 2 else if m ≤ 4 then m + 3 else if m ≤ 10 then m + 5 else if m ≤ 16 then m + 7 else m + 9
def finCode (f : Int) : Int := if f ≤ 16 then f + 1 else f + 2
theorem medCode_bd (m : Int) (h0 : -1 ≤ m) (h1 : m ≤ 20) : 0 ≤ medCode m ∧ medCode m ≤ 31 := by unfold medCode; omega
theorem finCode_bd (f : Int) (h0 : 0 ≤ f) (h1 : f ≤ 27) : 0 ≤ finCode f ∧ finCode f ≤ 31 := by unfold finCode; omega
theorem ini_bd (c : Int) : -1 ≤ ini c ∧ ini c ≤ 18 := by unfold ini; omega
theorem med_bd (c : Int) : -1 ≤ med c ∧ med c ≤ 20 := by unfold med; omega
theorem fin_bd (c : Int) : 0 ≤ fin c ∧ fin c ≤ 27 := by unfold fin; omega
def syl (i m f : Int) : Int := if 0 ≤ i ∧ i ≤ 18 ∧ 0 ≤ m ∧ m ≤ 20 ∧ 0 ≤ f ∧ f ≤ 27 then 44032 + (i * 21 + m) * 28 + f else 0
def sylB (i m f : Int) : Bool := decide (0 ≤ i ∧ i ≤ 18 ∧ 0 ≤ m ∧ m ≤ 20 ∧ 0 ≤ f ∧ f ≤ 27)

/-- the parts that stand alone, in order: their letters. -/
def aloneL : List UInt8 := [65, 66, 100, 67, 102, 103, 68, 69, 70, 106, 107, 108, 109, 110, 111, 112, 71, 72, 73, 115, 74, 75, 76, 77, 78, 79, 80, 81, 82, 83]
/-- the place of a letter among them; -1: none. -/
def aloneAt (part : Int) : Int := Lib.indexByte aloneL part.toNat.toUInt8
def cons (part : Int) : Int := if aloneAt part < 0 then 0 else 12593 + aloneAt part
def consB (part : Int) : Bool := !decide (aloneAt part < 0)

/-- the sign of a code of sixteen bits; 0: none. -/
def signJ (n : Int) : Int :=
  let i := ini (n / 1024 % 32); let m := med (n / 32 % 32); let f := fin (n % 32)
  if n < 32768 ∨ iniB (n / 1024 % 32) = false ∨ medB (n / 32 % 32) = false ∨ finB (n % 32) = false then 0
  else if i ≠ -1 ∧ m ≠ -1 then syl i m f
  else if i = -1 ∧ m ≠ -1 ∧ f = 0 then 12623 + m
  else if i ≠ -1 ∧ m = -1 ∧ f = 0 then cons (65 + i)
  else if i = -1 ∧ m = -1 ∧ f ≠ 0 then cons (97 + f)
  else 0
def signJB (n : Int) : Bool := !decide (signJ n = 0)
end Go.Proofs.Ythboonolnnjdeaa

/- Texts cut into tokens: the plain law. No program in sight. -/
import Derived.Lib.ValidU
namespace Go.Proofs.YtboinbjiemmggaaDoor
open Go.Lib

def isLetter (c : UInt8) : Bool := (97 ≤ c && c ≤ 122) || (65 ≤ c && c ≤ 90) || c == 95
def isDigit (c : UInt8) : Bool := 48 ≤ c && c ≤ 57
def isBlank (c : UInt8) : Bool := c == 9 || c == 10 || c == 13 || c == 32
def lowB (c : UInt8) : UInt8 := if 65 ≤ c && c ≤ 90 then c + 32 else c
/-- A token without its place. -/
structure Tk where
  k : Int
  t : List UInt8
  n : Nat
inductive One
  | ok (x : Tk) (n : Nat)
  | err (e : Int)
def wordL (s : List UInt8) : One :=
  let w := s.takeWhile fun c => isLetter c || isDigit c
  if 32 < w.length then .err 3 else .ok ⟨1, w.map lowB, 0⟩ w.length
def numOf (s : List UInt8) : Nat := s.foldl (fun n c => 10 * n + (c.toNat - 48)) 0
def numberL (s : List UInt8) : One :=
  let w := s.takeWhile isDigit
  if 9223372036854775808 < numOf w then .err 233 else .ok ⟨2, [], numOf w⟩ w.length
/-- Behind the first apostrophe: how far it is, whether a letter was bad, what was read. -/
def textGo : Nat → List UInt8 → Nat → Bool → List UInt8 → One
  | 0, _, _, _, _ => .err 231
  | _+1, [], _, _, _ => .err 231
  | f+1, c :: r, i, bad, buf =>
    if c ≠ 39 then
      let d := decodeL (c :: r)
      textGo f ((c :: r).drop d.2) (i + d.2) (bad || (d.1 == 65533 && d.2 == 1)) (buf ++ (c :: r).take d.2)
    else if r.getD 0 0 = 39 then textGo f (r.drop 1) (i + 2) bad (buf ++ [39])
    else if bad then .err 232 else if 64 < buf.length then .err 3 else .ok ⟨3, buf, 0⟩ (i + 1)
def textL (s : List UInt8) : One := textGo s.length (s.drop 1) 1 false []
def signsL : List (List UInt8) := [[60, 62], [60, 61], [62, 61], [124, 124], [40], [41], [44], [59], [46], [42], [43], [45], [47], [37], [61], [60], [62]]
def signL (s : List UInt8) : List (List UInt8) → One
  | [] => .err 230
  | x :: r => if x.isPrefixOf s then .ok ⟨4, x, 0⟩ x.length else signL s r
def oneL (s : List UInt8) : One := match s with
  | [] => .err 230
  | c :: _ => if isLetter c then wordL s else if isDigit c then numberL s else if c == 39 then textL s else signL s signsL
/-- The tokens with their places, or the error with its. -/
def lexGo : Nat → List UInt8 → Nat → Except (Int × Nat) (List (Tk × Nat))
  | 0, _, _ => .ok []
  | _+1, [], _ => .ok []
  | f+1, c :: r, at0 =>
    if isBlank c then lexGo f r (at0 + 1)
    else match oneL (c :: r) with
      | .err e => .error (e, at0)
      | .ok x n => match lexGo f ((c :: r).drop n) (at0 + n) with
        | .error e => .error e
        | .ok l => .ok ((x, at0) :: l)
def lexL (s : List UInt8) : Except (Int × Nat) (List (Tk × Nat)) := lexGo s.length s 0
end Go.Proofs.YtboinbjiemmggaaDoor

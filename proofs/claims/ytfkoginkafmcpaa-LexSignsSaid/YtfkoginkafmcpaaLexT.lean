/- The plain side of the reference's tokens. -/
import Derived.Test.YtfkoginkafmcpaaLexQ
import Derived.Test.YtfkoginkafmcpaaLexR
namespace Go.Proofs.Ytfkoginkafmcpaa
open Go.RowKit

/-- the longest sign that a text begins with, by the reference -/
def signR (l : List UInt8) : List UInt8 := (signsR.find? fun x => x.isPrefixOf l).getD []
def nameR (l : List UInt8) : Tok := ⟨if l.take (rl isBoth l) ∈ wordsR then 4 else 1, l.take (rl isBoth l), 0, 0⟩
def tokenR (l : List UInt8) : Tok × Nat × Int :=
  if isLetter (l.getD 0 0).toNat then (nameR l, rl isBoth l, 0)
  else if isDigit (l.getD 0 0).toNat then numberT l
  else if signR l = [] then (noTokT, 0, 3)
  else (⟨3, signR l, 0, 0⟩, (signR l).length, 0)

/-- what the reference's Tokens gives from a place on -/
def scanR : Nat → List UInt8 → Nat → List Tok → List Tok × Int × Int
  | 0, _, _, _ => ([], 0, 0)
  | _ + 1, [], p, acc => (acc ++ [⟨0, [], 0, p⟩], 0, 0)
  | f + 1, b :: r, p, acc =>
    if isBlank b.toNat then scanR f r (p + 1) acc
    else if (tokenR (b :: r)).2.2 = 0 then scanR f ((b :: r).drop (tokenR (b :: r)).2.1) (p + (tokenR (b :: r)).2.1) (acc ++ [{ (tokenR (b :: r)).1 with pos := p }])
    else ([], (tokenR (b :: r)).2.2, p)
def tokensR (l : List UInt8) : List Tok × Int × Int :=
  if 2000 < l.length then ([], 2, 0) else scanR (l.length + 1) l 0 []

theorem signsR_le (k : Nat) (h : k < signsR.length) : (signsR[k]).length ≤ 3 := by
  have h1 : ∀ x ∈ signsR, x.length ≤ 3 := by decide
  exact h1 _ (List.getElem_mem h)

theorem signsR_pos (k : Nat) (h : k < signsR.length) : 0 < (signsR[k]).length := by
  have h1 : ∀ x ∈ signsR, 0 < x.length := by decide
  exact h1 _ (List.getElem_mem h)

theorem isPrefixOf_take (x l : List UInt8) : x.isPrefixOf l = true ↔ x.length ≤ l.length ∧ l.take x.length = x := by
  rw [List.isPrefixOf_iff_prefix, List.prefix_iff_eq_take]
  constructor
  · intro h
    have h1 := congrArg List.length h
    rw [List.length_take] at h1
    exact ⟨by omega, h.symm⟩
  · intro h; exact h.2.symm

end Go.Proofs.Ytfkoginkafmcpaa

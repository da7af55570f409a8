/- The plain side: what the lexer's inner functions compute, on lists of bytes. -/
import Derived.Test.YtfkoginkafmcpaaLexB
import Derived.Lib.IndexMore
import Derived.Lib.Strings
namespace Go.Proofs.Ytfkoginkafmcpaa
open Go.RowKit

/-- the number that digits are, going on from x; none: it does not fit -/
def numFold : List UInt8 → Int → Option Int
  | [], x => some x
  | b :: l, x => if (9223372036854775807 - ((b.toNat : Int) - 48)) / 10 < x then none else numFold l (10 * x + ((b.toNat : Int) - 48))

def digits (l : List UInt8) : List UInt8 := l.take (rl isDigit l)

theorem rl_at (p : Int → Bool) : ∀ (l : List UInt8) (k : Nat) (_ : k < rl p l) (_ : k < l.length), p (l[k].toNat) = true
  | [], k, h, h' => by simp at h'
  | b :: l, 0, h, _ => by rw [rl_cons] at h; split at h <;> simp_all
  | b :: l, k + 1, h, h' => by
    rw [rl_cons] at h
    split at h
    · simpa using rl_at p l k (by omega) (by simpa using h')
    · omega

theorem digits_drop (l : List UInt8) (k : Nat) (h : k < rl isDigit l) (h' : k < l.length) : (digits l).drop k = l[k] :: (digits l).drop (k + 1) := by
  have hl : k < (l.take (rl isDigit l)).length := by rw [List.length_take]; omega
  show (l.take (rl isDigit l)).drop k = l[k] :: (l.take (rl isDigit l)).drop (k + 1)
  rw [List.drop_eq_getElem_cons hl, List.getElem_take]

theorem digits_end (l : List UInt8) : (digits l).drop (rl isDigit l) = [] := by
  unfold digits
  rw [List.drop_take]
  simp

/-- a token -/
structure Tok where
  kind : Int
  text : List UInt8
  n : Int
  pos : Int
def tokVal (kind : Int) (text : List UInt8) (n pos : Int) : Value := .agg #[.int .i64 kind, .string ⟨text.toArray⟩, .int .i64 n, .int .i64 pos]
/-- a token as the program holds it -/
def Tok.val (t : Tok) : Value := tokVal t.kind t.text t.n t.pos
def noTokT : Tok := ⟨0, [], 0, 0⟩
def noTok : Value := tokVal 0 [] 0 0

/-- what lex.number gives: a token, its length, an error -/
def numberT (l : List UInt8) : Tok × Nat × Int :=
  match numFold (digits l) 0 with
  | none => (noTokT, 0, 10)
  | some x => if (rl isDigit l < l.length && isLetter ((l.getD (rl isDigit l) 0).toNat)) then (noTokT, 0, 3) else (⟨2, [], x, 0⟩, rl isDigit l, 0)
def asL (r : Tok × Nat × Int) : Value × Int × Int := (r.1.val, (r.2.1 : Int), r.2.2)
def numberL (l : List UInt8) : Value × Int × Int := asL (numberT l)

def wordsB : List UInt8 := [32, 118, 111, 105, 100, 32, 99, 104, 97, 114, 32, 115, 104, 111, 114, 116, 32, 105, 110, 116, 32, 108, 111, 110, 103, 32, 117, 110, 115, 105, 103, 110, 101, 100, 32, 105, 102, 32, 101, 108, 115, 101, 32, 119, 104, 105, 108, 101, 32, 100, 111, 32, 102, 111, 114, 32, 115, 119, 105, 116, 99, 104, 32, 99, 97, 115, 101, 32, 100, 101, 102, 97, 117, 108, 116, 32, 98, 114, 101, 97, 107, 32, 99, 111, 110, 116, 105, 110, 117, 101, 32, 114, 101, 116, 117, 114, 110, 32, 103, 111, 116, 111, 32, 115, 105, 122, 101, 111, 102, 32]
def threeB : List UInt8 := [32, 60, 60, 61, 32, 62, 62, 61, 32]
def twoB : List UInt8 := [32, 43, 43, 32, 45, 45, 32, 60, 60, 32, 62, 62, 32, 60, 61, 32, 62, 61, 32, 61, 61, 32, 33, 61, 32, 38, 38, 32, 124, 124, 32, 43, 61, 32, 45, 61, 32, 42, 61, 32, 47, 61, 32, 37, 61, 32, 38, 61, 32, 94, 61, 32, 124, 61, 32]
def oneB : List UInt8 := [43, 45, 42, 47, 37, 38, 124, 94, 126, 33, 60, 62, 61, 63, 58, 59, 44, 40, 41, 91, 93, 123, 125]
/-- the text between blanks, in a list of such -/
def amid (all x : List UInt8) : Bool := Lib.contains all (32 :: (x ++ [32]))

theorem ext_take (s : ByteArray) (n : Nat) : s.extract 0 n = ⟨(s.data.toList.take n).toArray⟩ := by
  apply ByteArray.ext
  rw [← Array.toList_inj]
  simp

/-- a name's or a number's bytes -/
def isBoth (c : Int) : Bool := isLetter c || isDigit c
/-- what lex.name gives -/
def nameT (l : List UInt8) : Tok := ⟨if amid wordsB (l.take (rl isBoth l)) then 4 else 1, l.take (rl isBoth l), 0, 0⟩
def nameL (l : List UInt8) : Value := (nameT l).val
/-- what lex.sign gives -/
def signL (l : List UInt8) : List UInt8 :=
  if 3 ≤ l.length ∧ amid threeB (l.take 3) then l.take 3
  else if 2 ≤ l.length ∧ amid twoB (l.take 2) then l.take 2
  else if 0 ≤ Lib.indexByte oneB (l.getD 0 0) then l.take 1
  else []

/-- what lex.token gives: a token, its length, an error -/
def tokenT (l : List UInt8) : Tok × Nat × Int :=
  if isLetter (l.getD 0 0).toNat then (nameT l, rl isBoth l, 0)
  else if isDigit (l.getD 0 0).toNat then numberT l
  else if signL l = [] then (noTokT, 0, 3)
  else (⟨3, signL l, 0, 0⟩, (signL l).length, 0)
def tokenL (l : List UInt8) : Value × Int × Int := asL (tokenT l)

/-- what lex.Tokens gives from a place on -/
def scanL : Nat → List UInt8 → Nat → List Tok → List Tok × Int × Int
  | 0, _, _, _ => ([], 0, 0)
  | _ + 1, [], p, acc => (acc ++ [⟨0, [], 0, p⟩], 0, 0)
  | f + 1, b :: r, p, acc =>
    if (tokenT (b :: r)).2.2 = 0 then
      scanL f (((b :: r).drop (tokenT (b :: r)).2.1).drop (rl isBlank ((b :: r).drop (tokenT (b :: r)).2.1))) (p + (tokenT (b :: r)).2.1 + rl isBlank ((b :: r).drop (tokenT (b :: r)).2.1))
        (acc ++ [{ (tokenT (b :: r)).1 with pos := p }])
    else ([], (tokenT (b :: r)).2.2, p)
/-- what lex.Tokens gives: the tokens, an error and where -/
def tokensT (l : List UInt8) : List Tok × Int × Int :=
  if 2000 < l.length then ([], 2, 0) else scanL (l.length + 1) (l.drop (rl isBlank l)) (rl isBlank l) []

def Tok.cells (t : Tok) : List Value := [.int .i64 t.kind, .string ⟨t.text.toArray⟩, .int .i64 t.n, .int .i64 t.pos]
def flat (l : List Tok) : List Value := l.flatMap Tok.cells
theorem flat_length (l : List Tok) : (flat l).length = l.length * 4 := by
  induction l with
  | nil => rfl
  | cons t l ih => simp [flat, Tok.cells] at ih ⊢; omega
theorem flat_snoc (l : List Tok) (t : Tok) : flat (l ++ [t]) = flat l ++ t.cells := by simp [flat]

end Go.Proofs.Ytfkoginkafmcpaa

/- The plain law of blanks: around a text they turn the places alone. -/
import Derived.Test.YtfkoginkafmcpaaLexL
namespace Go.Proofs.Ytfkoginkafmcpaa
open Go.RowKit

def shiftTok (d : Int) (t : Tok) : Tok := { t with pos := t.pos + d }
/-- tokens as they stand two places on; the last one by four -/
def shiftAll (ts : List Tok) : List Tok := ts.map fun t => shiftTok (if t.kind = 0 then 4 else 2) t

theorem rl_app (p : Int → Bool) (hp : p 9 = false) : ∀ l : List UInt8, rl p (l ++ [9, 32]) = rl p l
  | [] => by
    show rl p (9 :: [32]) = 0
    rw [rl_cons, if_neg (by show ¬ p 9 = true; rw [hp]; simp)]
  | b :: l => by
    rw [List.cons_append, rl_cons, rl_cons, rl_app p hp l]

theorem take_app (l m : List UInt8) (n : Nat) (h : n ≤ l.length) : (l ++ m).take n = l.take n := by
  rw [List.take_append]
  have : n - l.length = 0 := by omega
  rw [this]; simp

theorem getD_app (l m : List UInt8) (n : Nat) (h : n < l.length) : (l ++ m).getD n 0 = l.getD n 0 := by
  rw [List.getD_eq_getElem?_getD, List.getD_eq_getElem?_getD, List.getElem?_append_left h]

theorem number_app (l : List UInt8) : numberT (l ++ [9, 32]) = numberT l := by
  have hr := rl_app isDigit (by decide) l
  have hle := rl_le isDigit l
  have hd : digits (l ++ [9, 32]) = digits l := by
    unfold digits
    rw [hr, take_app _ _ _ hle]
  unfold numberT
  rw [hd, hr]
  split
  · rfl
  · have : (decide (rl isDigit l < (l ++ [9, 32]).length) && isLetter ((l ++ [9, 32]).getD (rl isDigit l) 0).toNat) = (decide (rl isDigit l < l.length) && isLetter (l.getD (rl isDigit l) 0).toNat) := by
      by_cases h : rl isDigit l < l.length
      · rw [getD_app _ _ _ h]
        have : rl isDigit l < (l ++ [9, 32]).length := by simp; omega
        rw [decide_eq_true h, decide_eq_true this]
      · have h2 : rl isDigit l = l.length := by omega
        rw [h2, List.getD_eq_getElem?_getD, List.getElem?_append_right (Nat.le_refl _)]
        simp
        decide
    rw [this]

theorem sign_app (l : List UInt8) : signR (l ++ [9, 32]) = signR l := by
  unfold signR
  have h : ∀ L : List (List UInt8), (∀ x ∈ L, 9 ∉ x) → (L.find? fun x => x.isPrefixOf (l ++ [9, 32])) = L.find? fun x => x.isPrefixOf l := by
    intro L
    induction L with
    | nil => simp
    | cons x L ih =>
      intro hx
      have ih := ih (fun y hy => hx y (by simp [hy]))
      have h1 : x.isPrefixOf (l ++ [9, 32]) = x.isPrefixOf l := by
        rw [Bool.eq_iff_iff, isPrefixOf_take, isPrefixOf_take]
        constructor
        · rintro ⟨h1, h2⟩
          have h3 : x.length ≤ l.length := by
            apply Nat.le_of_not_lt
            intro h4
            have h5 : 9 ∈ (l ++ [9, 32]).take x.length := by
              rw [List.take_append]
              obtain ⟨k, hk⟩ : ∃ k, x.length - l.length = k + 1 := ⟨x.length - l.length - 1, by omega⟩
              rw [hk]
              simp
            rw [h2] at h5
            exact hx x (by simp) h5
          rw [take_app _ _ _ h3] at h2
          exact ⟨h3, h2⟩
        · rintro ⟨h1, h2⟩
          exact ⟨by simp; omega, by rw [take_app _ _ _ h1, h2]⟩
      rw [List.find?_cons, List.find?_cons, h1, ih]
  rw [h signsR (by decide)]

theorem token_app (b : UInt8) (r : List UInt8) : tokenR ((b :: r) ++ [9, 32]) = tokenR (b :: r) := by
  unfold tokenR nameR
  have hr := rl_app isBoth (by decide) (b :: r)
  rw [number_app, sign_app, hr, take_app _ _ _ (rl_le isBoth (b :: r))]
  rfl

theorem shift_snoc (acc : List Tok) (t : Tok) (ht : t.kind ≠ 0) : shiftAll (acc ++ [t]) = shiftAll acc ++ [shiftTok 2 t] := by
  simp [shiftAll, ht]

theorem tokenR_kind (b : UInt8) (r : List UInt8) (h : (tokenR (b :: r)).2.2 = 0) : (tokenR (b :: r)).1.kind ≠ 0 := by
  revert h
  unfold tokenR nameR numberT
  split
  · intro _; simp only []; split <;> decide
  · split
    · split
      · simp
      · split
        · simp
        · simp
    · split <;> simp

theorem scan_blanks : ∀ (f : Nat) (l : List UInt8) (p : Nat) (acc : List Tok), l.length + 2 < f →
    scanR f (l ++ [9, 32]) (p + 2) (shiftAll acc) = (shiftAll (scanR f l p acc).1, (scanR f l p acc).2.1, if (scanR f l p acc).2.1 = 0 then 0 else (scanR f l p acc).2.2 + 2)
  | 0, _, _, _, h => by omega
  | f + 1, [], p, acc, h => by
    simp only [List.length_nil] at h
    obtain ⟨f', rfl⟩ : ∃ f', f = f' + 1 + 1 := ⟨f - 2, by omega⟩
    show scanR (f' + 1 + 1 + 1) (9 :: [32]) (p + 2) (shiftAll acc) = _
    have e1 : isBlank (9 : UInt8).toNat = true := by decide
    have e2 : isBlank (32 : UInt8).toNat = true := by decide
    simp only [scanR, e1, e2, if_true]
    simp [shiftAll, shiftTok]
    omega
  | f + 1, b :: r, p, acc, h => by
    simp only [List.length_cons] at h
    rw [List.cons_append, scanR, scanR]
    by_cases hb : isBlank b.toNat = true
    · rw [if_pos hb, if_pos hb]
      have := scan_blanks f r (p + 1) acc (by omega)
      rw [show p + 2 + 1 = p + 1 + 2 from by omega, this]
    · rw [if_neg hb, if_neg hb, ← List.cons_append, token_app]
      by_cases he : (tokenR (b :: r)).2.2 = 0
      · rw [if_pos he, if_pos he]
        have hp := tokenR_pos b r he
        have hl := tokenR_le (b :: r) (by simp)
        simp only [List.length_cons] at hl
        have hk := tokenR_kind b r he
        have hd : (b :: r ++ [9, 32]).drop (tokenR (b :: r)).2.1 = (b :: r).drop (tokenR (b :: r)).2.1 ++ [9, 32] := by
          rw [List.drop_append]
          have : (tokenR (b :: r)).2.1 - (b :: r).length = 0 := by simp only [List.length_cons]; omega
          rw [this]; rfl
        have ih := scan_blanks f ((b :: r).drop (tokenR (b :: r)).2.1) (p + (tokenR (b :: r)).2.1) (acc ++ [{ (tokenR (b :: r)).1 with pos := (p : Int) }]) (by simp only [List.length_drop, List.length_cons]; omega)
        rw [shift_snoc _ _ (by exact hk)] at ih
        rw [hd, show p + 2 + (tokenR (b :: r)).2.1 = p + (tokenR (b :: r)).2.1 + 2 from by omega]
        have e : (shiftTok 2 { (tokenR (b :: r)).1 with pos := (p : Int) }) = { (tokenR (b :: r)).1 with pos := ((p + 2 : Nat) : Int) } := by
          simp [shiftTok]
        rw [e] at ih
        exact ih
      · rw [if_neg he, if_neg he]
        simp [shiftAll, he]

/-- blanks around a text turn the places alone -/
theorem tokens_blanks (l : List UInt8) (hl : l.length ≤ 1000) : tokensT (32 :: 10 :: (l ++ [9, 32])) = (shiftAll (tokensT l).1, (tokensT l).2.1, if (tokensT l).2.1 = 0 then 0 else (tokensT l).2.2 + 2) := by
  rw [tokens_same, tokens_same]
  have h1 : tokensR (32 :: 10 :: (l ++ [9, 32])) = scanR (l.length + 5) (32 :: 10 :: (l ++ [9, 32])) 0 [] := by
    unfold tokensR; rw [if_neg (by simp; omega)]; simp
  have h2 : tokensR l = scanR (l.length + 3) l 0 [] := by
    unfold tokensR; rw [if_neg (by omega)]
    exact scanR_fuel _ _ _ _ _ (by omega) (by omega)
  rw [h1, h2, scanR, if_pos (by decide), scanR, if_pos (by decide)]
  have := scan_blanks (l.length + 3) l 0 [] (by omega)
  simpa [shiftAll] using this

/-- an error has no tokens -/
theorem scanR_err : ∀ (f : Nat) (l : List UInt8) (p : Nat) (acc : List Tok), (scanR f l p acc).2.1 ≠ 0 → (scanR f l p acc).1 = []
  | 0, _, _, _ => by simp [scanR]
  | f + 1, [], p, acc => by simp [scanR]
  | f + 1, b :: r, p, acc => by
    unfold scanR
    split
    · exact scanR_err f r _ _
    · split
      · exact scanR_err f _ _ _
      · simp

theorem scanR_pos (B : Nat) : ∀ (f : Nat) (l : List UInt8) (p : Nat) (acc : List Tok), p + l.length ≤ B → (∀ t ∈ acc, 0 ≤ t.pos ∧ t.pos ≤ B) →
    (∀ t ∈ (scanR f l p acc).1, 0 ≤ t.pos ∧ t.pos ≤ B) ∧ 0 ≤ (scanR f l p acc).2.2 ∧ (scanR f l p acc).2.2 ≤ B
  | 0, _, _, _, _, _ => by simp [scanR]
  | f + 1, [], p, acc, h, ha => by
    simp only [List.length_nil] at h
    simp only [scanR]
    refine ⟨fun t ht => ?_, by omega, by omega⟩
    rcases List.mem_append.1 ht with ht | ht
    · exact ha t ht
    · simp only [List.mem_singleton] at ht
      subst ht
      exact ⟨by simp, by simp; omega⟩
  | f + 1, b :: r, p, acc, h, ha => by
    simp only [List.length_cons] at h
    unfold scanR
    split
    · exact scanR_pos B f r _ _ (by omega) ha
    · split
      · have hl := tokenR_le (b :: r) (by simp)
        simp only [List.length_cons] at hl
        refine scanR_pos B f _ _ _ (by simp only [List.length_drop, List.length_cons]; omega) (fun t ht => ?_)
        rcases List.mem_append.1 ht with ht | ht
        · exact ha t ht
        · simp only [List.mem_singleton] at ht
          subst ht
          exact ⟨by simp, by simp; omega⟩
      · exact ⟨by simp, by simp, by simp; omega⟩

theorem tokens_pos (l : List UInt8) (hl : l.length ≤ 2000) : (∀ t ∈ (tokensT l).1, 0 ≤ t.pos ∧ t.pos ≤ 2000) ∧ 0 ≤ (tokensT l).2.2 ∧ (tokensT l).2.2 ≤ 2000 := by
  rw [tokens_same]
  unfold tokensR
  rw [if_neg (by omega)]
  have := scanR_pos 2000 (l.length + 1) l 0 [] (by omega) (by simp)
  simpa using this

theorem tokens_err (l : List UInt8) (h : (tokensT l).2.1 ≠ 0) : (tokensT l).1 = [] := by
  rw [tokens_same] at h ⊢
  revert h
  unfold tokensR
  split
  · simp
  · exact scanR_err _ _ _ _

end Go.Proofs.Ytfkoginkafmcpaa

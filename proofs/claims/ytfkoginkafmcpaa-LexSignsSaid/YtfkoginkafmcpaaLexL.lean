/- The plain law of tokens: the program's way and the reference's way give the same. -/
import Derived.Test.YtfkoginkafmcpaaLexT
namespace Go.Proofs.Ytfkoginkafmcpaa
open Go.RowKit

-- what strings.Contains asks
theorem index_ge (sub : List UInt8) : ∀ s : List UInt8, -1 ≤ Lib.index s sub
  | [] => by unfold Lib.index; split <;> omega
  | b :: l => by
    have := index_ge sub l
    unfold Lib.index
    split
    · omega
    · split
      · omega
      · omega

theorem index_cons (b : UInt8) (l sub : List UInt8) : 0 ≤ Lib.index (b :: l) sub ↔ sub.isPrefixOf (b :: l) = true ∨ 0 ≤ Lib.index l sub := by
  have := index_ge sub l
  conv => lhs; unfold Lib.index
  by_cases h : sub.isPrefixOf (b :: l) = true
  · simp [h]
  · rw [if_neg h]
    by_cases h2 : Lib.index l sub = -1
    · simp [h2, h]
    · have h3 : (Lib.index l sub == -1) = false := by simpa using h2
      rw [h3, if_neg (by simp)]
      constructor
      · intro _; exact .inr (by omega)
      · intro _; omega

def joined (ws : List (List UInt8)) : List UInt8 := ws.flatMap fun w => w ++ [32]

theorem pre_one (F : List UInt8) : ∀ (x w : List UInt8), 32 ∉ x → 32 ∉ w → ((x ++ [32]).isPrefixOf (w ++ 32 :: F) = true ↔ x = w)
  | [], [], _, _ => by simp [List.isPrefixOf]
  | [], a :: w, _, hw => by
    have : ¬ (32 : UInt8) = a := fun h => hw (by simp [h])
    simp [List.isPrefixOf, this]
  | a :: x, [], hx, _ => by
    have : ¬ a = (32 : UInt8) := fun h => hx (by simp [h])
    simp [List.isPrefixOf, this]
  | a :: x, b :: w, hx, hw => by
    have ih := pre_one F x w (fun h => hx (by simp [h])) (fun h => hw (by simp [h]))
    simp only [List.cons_append, List.isPrefixOf, Bool.and_eq_true, beq_iff_eq, ih, List.cons.injEq]

theorem index_skip (F sub : List UInt8) : ∀ w : List UInt8, 32 ∉ w → (0 ≤ Lib.index (w ++ F) (32 :: sub) ↔ 0 ≤ Lib.index F (32 :: sub))
  | [], _ => by simp
  | a :: w, hw => by
    have ih := index_skip F sub w (fun h => hw (by simp [h]))
    have : ((32 : UInt8) == a) = false := by simpa using fun h => hw (by simp [h])
    rw [List.cons_append, index_cons, ih]
    simp [List.isPrefixOf, this]

theorem amid_joined (x : List UInt8) (hx : 32 ∉ x) : ∀ ws : List (List UInt8), (∀ w ∈ ws, 32 ∉ w) → (0 ≤ Lib.index (32 :: joined ws) (32 :: (x ++ [32])) ↔ x ∈ ws)
  | [], _ => by
    rw [index_cons]
    cases x <;> simp [joined, List.isPrefixOf, Lib.index]
  | w :: ws, hw => by
    have ih := amid_joined x hx ws (fun v hv => hw v (by simp [hv]))
    have h0 : joined (w :: ws) = w ++ (32 :: joined ws) := by simp [joined]
    rw [h0, index_cons, index_skip _ _ w (hw w (by simp)), ih]
    have h1 : (32 :: (x ++ [32])).isPrefixOf (32 :: (w ++ 32 :: joined ws)) = (x ++ [32]).isPrefixOf (w ++ 32 :: joined ws) := by simp [List.isPrefixOf]
    rw [h1, pre_one _ x w hx (hw w (by simp)), List.mem_cons]

theorem wordsB_joined : wordsB = 32 :: joined wordsR := by decide +kernel

theorem amid_words (x : List UInt8) (hx : 32 ∉ x) : amid wordsB x = decide (x ∈ wordsR) := by
  unfold amid Lib.contains
  rw [wordsB_joined, decide_eq_decide]
  exact amid_joined x hx wordsR (by decide)

theorem take_no (p : Int → Bool) (hp : p 32 = false) : ∀ l : List UInt8, 32 ∉ l.take (rl p l)
  | [] => by simp
  | b :: l => by
    rw [rl_cons]
    split
    · rename_i h
      simp only [List.take_succ_cons, List.mem_cons, not_or]
      refine ⟨?_, take_no p hp l⟩
      intro e
      rw [← e] at h
      have : p 32 = true := h
      rw [hp] at this
      cases this
    · simp

theorem name_same (l : List UInt8) : nameT l = nameR l := by
  unfold nameT nameR
  rw [amid_words _ (take_no isBoth (by decide) l)]
  simp

-- signs
def threeR : List (List UInt8) := signsR.take 2
def twoR : List (List UInt8) := (signsR.drop 2).take 18
def oneR : List (List UInt8) := signsR.drop 20
theorem signsR_parts : signsR = threeR ++ (twoR ++ oneR) := rfl

theorem find_pre (k : Nat) (l : List UInt8) : ∀ L : List (List UInt8), (∀ x ∈ L, x.length = k) → (L.find? fun x => x.isPrefixOf l) = if k ≤ l.length ∧ l.take k ∈ L then some (l.take k) else none
  | [], _ => by simp
  | x :: L, h => by
    have ih := find_pre k l L (fun y hy => h y (by simp [hy]))
    have hx := h x (by simp)
    rw [List.find?_cons]
    by_cases hp : x.isPrefixOf l = true
    · obtain ⟨h1, h2⟩ := (isPrefixOf_take x l).1 hp
      rw [hx] at h1 h2
      rw [hp]
      simp [h1, h2]
    · have h1 : ¬ (k ≤ l.length ∧ l.take k = x) := by
        intro ⟨h1, h2⟩
        exact hp ((isPrefixOf_take x l).2 (by rw [hx]; exact ⟨h1, h2⟩))
      rw [Bool.not_eq_true] at hp
      rw [hp, ih]
      have h2 : (k ≤ l.length ∧ l.take k ∈ x :: L) ↔ (k ≤ l.length ∧ l.take k ∈ L) := by
        rw [List.mem_cons]
        constructor
        · rintro ⟨a, b | b⟩
          · exact absurd ⟨a, b⟩ h1
          · exact ⟨a, b⟩
        · rintro ⟨a, b⟩; exact ⟨a, .inr b⟩
      simp only [h2]

theorem index_nil (b : UInt8) (sub : List UInt8) : (0 ≤ Lib.index [] (b :: sub)) = False := by simp [Lib.index]

theorem amid_three (b c d : UInt8) : amid threeB [b, c, d] = decide ([b, c, d] ∈ threeR) := by
  unfold amid Lib.contains threeB
  rw [decide_eq_decide, show threeR = [[60, 60, 61], [62, 62, 61]] from rfl]
  simp [index_cons, index_nil, List.isPrefixOf]

theorem amid_two (b c : UInt8) : amid twoB [b, c] = decide ([b, c] ∈ twoR) := by
  unfold amid Lib.contains twoB
  rw [decide_eq_decide, show twoR = [[43, 43], [45, 45], [60, 60], [62, 62], [60, 61], [62, 61], [61, 61], [33, 61], [38, 38], [124, 124], [43, 61], [45, 61], [42, 61], [47, 61], [37, 61], [38, 61], [94, 61], [124, 61]] from rfl]
  simp [index_cons, index_nil, List.isPrefixOf]

theorem index_one (b : UInt8) : ∀ l : List UInt8, (0 ≤ Lib.indexByte l b ↔ [b] ∈ l.map fun x => [x])
  | [] => by simp [Lib.indexByte]
  | a :: l => by
    have ih := index_one b l
    have hge : ∀ l : List UInt8, -1 ≤ Lib.indexByte l b := by
      intro l
      induction l with
      | nil => simp [Lib.indexByte]
      | cons a l ih => unfold Lib.indexByte; split; omega; split <;> omega
    have h2 := hge l
    unfold Lib.indexByte
    by_cases h : a = b
    · subst h; simp
    · have h1 : (a == b) = false := by simpa using h
      rw [h1, if_neg (by simp)]
      by_cases h3 : Lib.indexByte l b = -1
      · rw [h3] at ih ⊢
        simp at ih ⊢
        exact ⟨fun e => h e.symm, ih⟩
      · have h4 : (Lib.indexByte l b == -1) = false := by simpa using h3
        rw [h4, if_neg (by simp)]
        have h5 : 0 ≤ Lib.indexByte l b := by omega
        have h6 := ih.1 h5
        constructor
        · intro _; simp at h6 ⊢; exact .inr h6
        · intro _; omega

theorem oneB_map : (oneB.map fun x => [x]) = oneR := rfl

theorem sign_same (b : UInt8) (r : List UInt8) : signL (b :: r) = signR (b :: r) := by
  unfold signL signR
  rw [signsR_parts, List.find?_append, List.find?_append, find_pre 3 _ threeR (by decide), find_pre 2 _ twoR (by decide), find_pre 1 _ oneR (by decide)]
  have h1 : (0 ≤ Lib.indexByte oneB ((b :: r).getD 0 0)) ↔ (1 ≤ (b :: r).length ∧ (b :: r).take 1 ∈ oneR) := by
    rw [List.getD_cons_zero, index_one, oneB_map]
    simp
  have h2 : (2 ≤ (b :: r).length ∧ amid twoB ((b :: r).take 2) = true) ↔ (2 ≤ (b :: r).length ∧ (b :: r).take 2 ∈ twoR) := by
    match r with
    | [] => simp
    | c :: r => simp [amid_two]
  have h3 : (3 ≤ (b :: r).length ∧ amid threeB ((b :: r).take 3) = true) ↔ (3 ≤ (b :: r).length ∧ (b :: r).take 3 ∈ threeR) := by
    match r with
    | [] => simp
    | [c] => simp
    | c :: d :: r => simp [amid_three]
  simp only [h1, h2, h3]
  split
  · simp
  · split
    · simp
    · split <;> simp

theorem token_same (b : UInt8) (r : List UInt8) : tokenT (b :: r) = tokenR (b :: r) := by
  unfold tokenT tokenR
  rw [name_same, sign_same]

theorem tokenR_le (l : List UInt8) (h : l ≠ []) : (tokenR l).2.1 ≤ l.length := by
  match l, h with
  | b :: r, _ => rw [← token_same]; exact tokenT_le _

theorem tokenR_pos (b : UInt8) (l : List UInt8) (h : (tokenR (b :: l)).2.2 = 0) : 0 < (tokenR (b :: l)).2.1 := by
  rw [← token_same] at h ⊢; exact tokenT_pos b l h

theorem scanR_fuel : ∀ (f f' : Nat) (l : List UInt8) (p : Nat) (acc : List Tok), l.length < f → l.length < f' → scanR f l p acc = scanR f' l p acc
  | 0, _, _, _, _, h, _ => by omega
  | _ + 1, 0, _, _, _, _, h => by omega
  | f + 1, f' + 1, [], p, acc, _, _ => rfl
  | f + 1, f' + 1, b :: r, p, acc, h, h' => by
    simp only [List.length_cons] at h h'
    unfold scanR
    split
    · exact scanR_fuel f f' r _ _ (by omega) (by omega)
    · split
      · rename_i he
        have h1 := tokenR_pos b r he
        exact scanR_fuel f f' _ _ _ (by simp; omega) (by simp; omega)
      · rfl

theorem scanR_blanks : ∀ (l : List UInt8) (f p : Nat) (acc : List Tok), l.length < f → scanR f l p acc = scanR f (l.drop (rl isBlank l)) (p + rl isBlank l) acc
  | [], f, p, acc, _ => by simp [rl_nil]
  | b :: r, 0, _, _, h => by omega
  | b :: r, f + 1, p, acc, h => by
    simp only [List.length_cons] at h
    rw [rl_cons]
    by_cases hb : isBlank b.toNat = true
    · rw [if_pos hb, List.drop_succ_cons]
      conv => lhs; unfold scanR
      rw [if_pos hb, scanR_blanks r f (p + 1) acc (by omega), show p + (rl isBlank r + 1) = p + 1 + rl isBlank r from by omega]
      exact scanR_fuel _ _ _ _ _ (by simp; omega) (by simp; omega)
    · rw [if_neg hb]; rfl

theorem rl_head (p : Int → Bool) : ∀ l : List UInt8, l.drop (rl p l) = [] ∨ ∃ b r, l.drop (rl p l) = b :: r ∧ p b.toNat = false
  | [] => by simp
  | b :: l => by
    rw [rl_cons]
    by_cases hb : p b.toNat = true
    · rw [if_pos hb, List.drop_succ_cons]; exact rl_head p l
    · rw [if_neg hb]
      exact .inr ⟨b, l, rfl, by simpa using hb⟩

theorem scan_same : ∀ (f : Nat) (l : List UInt8) (p : Nat) (acc : List Tok), l.length < f → (l = [] ∨ ∃ b r, l = b :: r ∧ isBlank b.toNat = false) → scanL f l p acc = scanR f l p acc
  | 0, _, _, _, h, _ => by omega
  | f + 1, [], p, acc, _, _ => rfl
  | f + 1, b :: r, p, acc, h, hh => by
    have hb : isBlank b.toNat = false := by
      rcases hh with hh | ⟨b', r', hh, h2⟩
      · cases hh
      · injection hh with h3 h4; rw [h3]; exact h2
    simp only [List.length_cons] at h
    unfold scanL scanR
    rw [if_neg (show ¬ isBlank b.toNat = true by rw [hb]; simp), token_same]
    by_cases he : (tokenR (b :: r)).2.2 = 0
    · rw [if_pos he, if_pos he]
      have h1 := tokenR_pos b r he
      rw [scan_same f _ _ _ (by simp; omega) (rl_head isBlank _)]
      exact (scanR_blanks _ f _ _ (by simp; omega)).symm
    · rw [if_neg he, if_neg he]

theorem tokens_same (l : List UInt8) : tokensT l = tokensR l := by
  unfold tokensT tokensR
  split
  · rfl
  · rw [scan_same _ _ _ _ (by simp; omega) (rl_head isBlank l)]
    have := scanR_blanks l (l.length + 1) 0 [] (by omega)
    rw [this, Nat.zero_add]

end Go.Proofs.Ytfkoginkafmcpaa

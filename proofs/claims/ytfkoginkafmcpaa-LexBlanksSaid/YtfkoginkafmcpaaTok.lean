/- A token appended to a slice of the call's own. -/
import Derived.Test.YtfkoginkafmcpaaLexP
import Derived.Test.YtfkoginkafmcpaaMem
namespace Go.Proofs.Ytfkoginkafmcpaa
open Go.RowKit

theorem tok_info : (Try.prog.info? 34).map (fun i => (i.zero, i.size, i.bytes)) = some (some (.agg #[.int .i64 0, .string ⟨#[]⟩, .int .i64 0, .int .i64 0]), 4, 40) := by kernel_rfl

theorem tok_one (a : Int) (b : ByteArray) (c d : Int) : ∀ u ∈ [Value.int .i64 a, .string b, .int .i64 c, .int .i64 d], u.oneCell' = true := by
  intro u hu
  simp only [List.mem_cons, List.not_mem_nil, or_false] at hu
  rcases hu with rfl | rfl | rfl | rfl <;> rfl

def Tok.row (t : Tok) : Array Value := #[.int .i64 t.kind, .string ⟨t.text.toArray⟩, .int .i64 t.n, .int .i64 t.pos]
/-- blocks of other types are as they were -/
def Others (e : TypeId) (w w' : World) : Prop := ∀ g t cs, e ≠ t → BlkIs w g t cs → BlkIs w' g t cs
theorem Others.refl (e : TypeId) (w : World) : Others e w w := fun _ _ _ _ h => h
theorem Others.trans {e : TypeId} {a b c : World} (h : Others e a b) (k : Others e b c) : Others e a c := fun g t cs hne hb => k g t cs hne (h g t cs hne hb)

/-- a slice of the call's own holds these tokens -/
def TokRow (w : World) (B : Nat) (v : Value) (ts : List Tok) : Prop := w.ownsRow B 34 4 v ts.length (flat ts)
section
variable {w w' : World} {B : Nat} {v : Value} {ts : List Tok}
theorem TokRow.nil (w : World) (B : Nat) : TokRow w B (.slice none 0 0) [] := ⟨by simp [flat], .inl ⟨rfl, rfl⟩⟩
theorem TokRow.alloc (h : TokRow w B v ts) (o : Obj) : TokRow (w.alloc o) B v ts := World.ownsRow.alloc h o
theorem TokRow.drew (h : TokRow w B v ts) : TokRow w.drew B v ts := h
theorem TokRow.drewN (h : TokRow w B v ts) (n : Nat) : TokRow (w.drewN n) B v ts := h
theorem TokRow.below (h : TokRow w B v ts) (hb : Below w.heap.size w w') : TokRow w' B v ts := own_below h hb
theorem TokRow.far (h : TokRow w B v ts) {p : Addr} (hp : some p.block ≠ v.ownBlock) (u : Value) : TokRow (w.setCell p u) B v ts := own_far h hp u
theorem TokRow.base {B' : Nat} (h : TokRow w B v ts) (hb : B' ≤ B) : TokRow w B' v ts := own_base h hb
theorem TokRow.ne_blk {g : Nat} {t : TypeId} {cs : Array Value} (h : TokRow w B v ts) (hg : BlkIs w g t cs) (hne : 34 ≠ t) : some g ≠ v.ownBlock := own_ne_blk h hg hne
theorem TokRow.ne_far {g : Nat} (h : TokRow w B v ts) (hg : w.heap.size ≤ g) : some g ≠ v.ownBlock := own_ne_far h hg
end

/-- the slice itself, and the block that it starts -/
theorem TokRow.form {w : World} {B : Nat} {v : Value} {ts : List Tok} (h : TokRow w B v ts) : ∃ (A : Option Addr) (c : Nat), v = .slice A ts.length c ∧ (0 < ts.length → ∃ (g : Nat) (cs : Array Value), A = some ⟨g, 0, none⟩ ∧ B ≤ g ∧ BlkIs w g 34 cs ∧ ts.length * 4 ≤ cs.size ∧ ∀ j, j < ts.length * 4 → cs[j]? = (flat ts)[j]?) := by
  rcases h.2 with ⟨hv, hn⟩ | ⟨g, cap, cur, hv, hb, hh, hc, hm, hsz, ht⟩
  · exact ⟨none, 0, by rw [hv, hn], fun h0 => absurd h0 (by omega)⟩
  · refine ⟨some ⟨g, 0, none⟩, cap, hv, fun _ => ⟨g, cur, rfl, hb, hh, by rw [hsz]; exact Nat.mul_le_mul_right 4 hc, fun j hj => ?_⟩⟩
    rw [← ht, List.getElem?_take, if_pos hj]
    simp

theorem flat_at (ts : List Tok) (k : Nat) (h : k < ts.length) : (flat ts)[k * 4]? = some (.int .i64 (ts[k]).kind) ∧ (flat ts)[k * 4 + 1]? = some (.string ⟨(ts[k]).text.toArray⟩) ∧ (flat ts)[k * 4 + 2]? = some (.int .i64 (ts[k]).n) ∧ (flat ts)[k * 4 + 3]? = some (.int .i64 (ts[k]).pos) := by
  induction ts generalizing k with
  | nil => simp at h
  | cons t ts ih =>
    match k with
    | 0 => simp [flat, Tok.cells]
    | k + 1 =>
      have := ih k (by simpa using h)
      simp only [flat, List.flatMap_cons] at this ⊢
      have e : ∀ j, (t.cells ++ List.flatMap Tok.cells ts)[(k + 1) * 4 + j]? = (List.flatMap Tok.cells ts)[k * 4 + j]? := by
        intro j
        rw [List.getElem?_append_right (by simp [Tok.cells]; omega)]
        congr 1
        simp [Tok.cells]; omega
      have e0 := e 0
      simp only [Nat.add_zero] at e0
      rw [e0, e 1, e 2, e 3]
      simpa using this

theorem append_tok {ops : Array Oper} {rest : List Oper} {o : Oper} {a : Act} {Q : Exit → Act → World → Prop} {w : World} (hgd : o.guard = none) (s x : Operand)
    (ho : o.op = .call { callee := .builtin .append, args := #[s, x], argTypes := #[24, 24] })
    (B : Nat) (v : Value) (ts : List Tok) (t : Tok) (hs : a.eval s = v) (g : Nat) (hx : a.eval x = .slice (some ⟨g, 0, none⟩) 1 1)
    (hown : TokRow w B v ts) {cs : Array Value} (hnew : BlkIs w g 34 cs) (hcs : cs = t.row) (hlen : ts.length ≤ 100000) (hB : B ≤ w.heap.size)
    (h : ∀ v' w', TokRow w' B v' (ts ++ [t]) → Below B w w' → Others 34 w w' → wpList Try.prog ops Q rest (a.put o.dst v') w') :
    wpList Try.prog ops Q (o :: rest) a w := by
  subst hcs
  obtain ⟨i0, hi0, hz0, hz1, hz2⟩ := info_parts tok_info
  refine wpList_append_own _ hgd s x 24 ho B 34 i0 _ 4 40 Try.underlying24 hi0 hz0 hz1 hz2 rfl (by decide) v _ _ hs hown ⟨g, 0, none⟩ 1 1 t.cells hx rfl (hnew.cells rfl) (tok_one _ _ _ _) (by unfold maxLen; omega) (by omega) hB ?_
  intro v' w' h1 h2 _
  refine h v' w' ?_ ((Below.refl _ _).grown h2 hB (own_block_ge hown)) ?_
  · unfold TokRow; rw [List.length_append, flat_snoc]; exact h1
  · intro g' t' cs' hne hb
    exact hb.grown h2 (own_ne_blk hown hb hne)

end Go.Proofs.Ytfkoginkafmcpaa

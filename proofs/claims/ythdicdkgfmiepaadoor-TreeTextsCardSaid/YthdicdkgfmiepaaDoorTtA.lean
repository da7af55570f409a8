/- Bytes that a call owns, carried from append to append; the texts of trees. -/
import Derived.Test.YthdicdkgfmiepaaDoorTpE
import Derived.Test.YthdicdkgfmiepaaDoorCzN
import Derived.Test.YthdicdkgfmiepaaDoorShelfB
import Derived.Lib.BufSteps
import Derived.Lib.AppendIntMem
import Derived.Lib.AppendStr
namespace Go.Proofs.YthdicdkgfmiepaaDoor
open Go.RowKit

/-- the call owns a row of just these bytes; below B, and in blocks of other kinds, nothing has turned since W0 -/
def Buf (B : Nat) (W0 : World) (v : Value) (s : List UInt8) (w : World) : Prop :=
  w.ownsRow B 5 1 v s.length (Lib.byteCells s) ∧ Below B W0 w ∧ B ≤ w.heap.size ∧ Lib.OthersKept 5 none W0 w

theorem byte_info : ∃ i, Tryd.prog.info? 5 = some i ∧ i.zero = some (.int .u8 0) ∧ i.size = 1 ∧ i.bytes = 1 := by
  have h : (Tryd.prog.info? 5).map (fun i => (i.zero, i.size, i.bytes)) = some (some (.int .u8 0), 1, 1) := by kernel_rfl
  obtain ⟨i, h1, h2, h3, h4⟩ := info_parts h
  exact ⟨i, h1, h2, h3, h4⟩

theorem own_obj {w : World} {B : Nat} {e : TypeId} {z n : Nat} {v : Value} {xs : List Value} (h : w.ownsRow B e z v n xs) : ∀ g, v.ownBlock = some g → ∃ c fz, w.heap[g]? = some (.cells c e fz) := by
  intro g hg
  rcases h.2 with ⟨rfl, _⟩ | ⟨g', cap, cur, rfl, _, hh, _⟩
  · simp [Value.ownBlock] at hg
  · have e1 : g' = g := by simpa [Value.ownBlock] using hg
    subst e1
    exact ⟨_, _, hh⟩

theorem Buf.alloc {B : Nat} {W0 w : World} {v : Value} {s : List UInt8} (h : Buf B W0 v s w) (o : Obj) : Buf B W0 v s (w.alloc o) :=
  ⟨World.ownsRow.alloc h.1 o, h.2.1.alloc h.2.2.1 o, Nat.le_trans h.2.2.1 (by simp), h.2.2.2.alloc o⟩

theorem Buf.start {B : Nat} {v : Value} {n : Nat} {s : List UInt8} {w : World} (h : w.ownsRow B 5 1 v n (Lib.byteCells s)) (hn : n = s.length) (hB : B ≤ w.heap.size) : Buf B w v s w :=
  ⟨by rw [← hn]; exact h, Below.refl _ _, hB, Lib.OthersKept.refl _ _ _⟩

theorem Buf.keep {B : Nat} {W0 w : World} {v : Value} {s : List UInt8} (h : Buf B W0 v s w) {g : Nat} {t : TypeId} {cs : Array Value} (hg : BlkIs W0 g t cs) (ht : t ≠ 5) : BlkIs w g t cs :=
  h.2.2.2 g _ hg (by simp) (fun c fz e => ht (by injection e))

theorem blk_kept {w w' : World} (h : Lib.OthersKept 5 none w w') {g : Nat} {t : TypeId} {cs : Array Value} (hg : BlkIs w g t cs) (ht : t ≠ 5) : BlkIs w' g t cs :=
  h g _ hg (by simp) (fun c fz e => ht (by injection e))

/-- a text behind them -/
theorem buf_text {ops : Array Oper} {rest : List Oper} {o : Oper} {a : Act} {Q : Exit → Act → World → Prop} {w : World} (hgd : o.guard = none) (sl x : Operand)
    (ho : o.op = .call { callee := .builtin .append, args := #[sl, x], argTypes := #[91, 9] }) (B : Nat) (W0 : World) (v : Value) (s t : List UInt8) (hs : a.eval sl = v) (hb : Buf B W0 v s w) (hx : a.eval x = .string ⟨t.toArray⟩) (hlen : s.length + t.length ≤ 100000000)
    (h : ∀ v' w', Buf B W0 v' (s ++ t) w' → Lib.OthersKept 5 none w w' → wpList Tryd.prog ops Q rest (a.put o.dst v') w') : wpList Tryd.prog ops Q (o :: rest) a w := by
  obtain ⟨i, hi, hz, hsz, hby⟩ := byte_info
  have hts : (ByteArray.mk t.toArray).size = t.length := by simp [ByteArray.size]
  refine Lib.wpList_append_own_string w hgd sl x 91 9 ho B 5 i Tryd.underlying91 Tryd.underlying9 hi hz hsz hby v _ _ hs hb.1 ⟨t.toArray⟩ hx (by rw [hts]; unfold maxLen; omega) (by rw [hts]; omega) hb.2.2.1 ?_
  intro v' w' h1 h2 _
  refine h v' w' ⟨?_, hb.2.1.grown h2 hb.2.2.1 (own_block_ge hb.1), Nat.le_trans hb.2.2.1 h2.size, hb.2.2.2.grown h2 (own_obj hb.1)⟩ ((Lib.OthersKept.refl _ _ _).grown h2 (own_obj hb.1))
  rw [hts, Lib.strCells_toArray] at h1
  rw [List.length_append, Lib.byteCells_append]
  exact h1

/-- a byte behind them, which lies in a block of its own -/
theorem buf_byte {ops : Array Oper} {rest : List Oper} {o : Oper} {a : Act} {Q : Exit → Act → World → Prop} {w : World} (hgd : o.guard = none) (sl x : Operand)
    (ho : o.op = .call { callee := .builtin .append, args := #[sl, x], argTypes := #[91, 91] }) (B : Nat) (W0 : World) (v : Value) (s : List UInt8) (b : UInt8) (g : Nat) (hs : a.eval sl = v) (hb : Buf B W0 v s w) (hx : a.eval x = .slice (some ⟨g, 0, none⟩) 1 1) (hg : BlkIs w g 5 #[.int .u8 b.toNat]) (hlen : s.length ≤ 100000000)
    (h : ∀ v' w', Buf B W0 v' (s ++ [b]) w' → Lib.OthersKept 5 none w w' → wpList Tryd.prog ops Q rest (a.put o.dst v') w') : wpList Tryd.prog ops Q (o :: rest) a w := by
  obtain ⟨i, hi, hz, hsz, hby⟩ := byte_info
  refine wpList_append_own w hgd sl x 91 ho B 5 i _ 1 1 Tryd.underlying91 hi hz hsz hby rfl (by decide) v _ _ hs hb.1 ⟨g, 0, none⟩ 1 1 [.int .u8 b.toNat] hx rfl (hg.cells rfl) (by intro u hu; simp at hu; subst hu; rfl) (by unfold maxLen; omega) (by omega) hb.2.2.1 ?_
  intro v' w' h1 h2 _
  refine h v' w' ⟨?_, hb.2.1.grown h2 hb.2.2.1 (own_block_ge hb.1), Nat.le_trans hb.2.2.1 h2.size, hb.2.2.2.grown h2 (own_obj hb.1)⟩ ((Lib.OthersKept.refl _ _ _).grown h2 (own_obj hb.1))
  rw [List.length_append, Lib.byteCells_append]
  exact h1

theorem itoa_dec (n : Int) : Lib.itoa n = decT n := by
  have key : ∀ u : Nat, Lib.decDigits u = digs u := by
    intro u
    induction u using Nat.strongRecOn with
    | ind u ih =>
      unfold Lib.decDigits digs
      by_cases h : u < 10
      · rw [dif_pos h, if_pos h]; rfl
      · rw [dif_neg h, if_neg h, ih (u / 10) (by omega)]; rfl
  unfold Lib.itoa decT
  by_cases h : n < 0
  · rw [if_pos h, if_pos h, key]
  · rw [if_neg h, if_neg h, key, show n.toNat = n.natAbs by omega]

/-- an op's word -/
def wordT (op : Int) : List UInt8 := opWords.getD (op - 1).toNat []
def sepT (i : Nat) : List UInt8 := if i = 0 then [] else [44, 32]
mutual
def textT : Pat → List UInt8
  | .mk op n ks => wordT op ++ [40] ++ (if isLeaf op = true then decT n else []) ++ kidsT 0 ks ++ [41]
/-- kids' texts, the first of which is number i -/
def kidsT : Nat → List Pat → List UInt8
  | _, [] => []
  | i, k :: ks => sepT i ++ textT k ++ kidsT (i + 1) ks
end
theorem textT_eq (p : Pat) : textT p = wordT p.op ++ [40] ++ (if isLeaf p.op = true then decT p.nt else []) ++ kidsT 0 p.kids ++ [41] := by
  cases p; rw [textT]; rfl
theorem kidsT_append : ∀ (a b : List Pat) (i : Nat), kidsT i (a ++ b) = kidsT i a ++ kidsT (i + a.length) b
  | [], b, i => by simp [kidsT]
  | x :: a, b, i => by
    rw [List.cons_append, kidsT, kidsT, kidsT_append a b (i + 1), List.length_cons, show i + 1 + a.length = i + (a.length + 1) by omega]
    simp
theorem kidsT_take (ps : List Pat) (k : Nat) (h : k < ps.length) : kidsT 0 (ps.take (k + 1)) = kidsT 0 (ps.take k) ++ sepT k ++ textT ps[k] := by
  rw [List.take_succ_eq_append_getElem h, kidsT_append]
  have : (ps.take k).length = k := by simp; omega
  rw [this, Nat.zero_add]
  simp [kidsT]

theorem decT_len {n : Int} (h : I64r n) : (decT n).length ≤ 20 := by
  unfold I64r at h
  have hl := digs_len 19 n.natAbs (by omega) (by omega)
  unfold decT
  split
  · simp; omega
  · omega
theorem wordT_len (op : Int) : (wordT op).length ≤ 7 := by
  unfold wordT
  rw [List.getD_eq_getElem?_getD]
  rcases Nat.lt_or_ge (op - 1).toNat opWords.length with h | h
  · rw [List.getElem?_eq_getElem h]
    have h1 : (opWords.all fun l => decide (l.length ≤ 7)) = true := by kernel_rfl
    have := List.all_eq_true.1 h1 _ (List.getElem_mem h)
    simpa using this
  · rw [List.getElem?_eq_none h]; simp

theorem text_len : ∀ p : Pat, PatWf p → (textT p).length + 2 ≤ 31 * patN p
  | .mk op n ks => fun h => by
    have hk : ∀ (l : List Pat) (i : Nat), (∀ k ∈ l, (textT k).length + 2 ≤ 31 * patN k) → (kidsT i l).length ≤ 31 * patsN l := by
      intro l
      induction l with
      | nil => intro i _; simp [kidsT]
      | cons x l ih =>
        intro i hl
        have h1 := ih (i + 1) (fun k hk => hl k (by simp [hk]))
        have h2 := hl x (by simp)
        have h3 : (sepT i).length ≤ 2 := by unfold sepT; split <;> simp
        simp only [kidsT, List.length_append, patsN]
        omega
    have h1 := hk ks 0 (fun k hk => text_len k (h.kid k hk))
    have h2 := decT_len h.nt
    have h3 := wordT_len op
    have h4 : (if isLeaf op = true then decT n else []).length ≤ 20 := by
      split
      · exact h2
      · simp
    rw [textT_eq, patN_eq]
    show (wordT op ++ [40] ++ (if isLeaf op = true then decT n else []) ++ kidsT 0 ks ++ [41]).length + 2 ≤ 31 * (1 + patsN ks)
    rw [List.length_append, List.length_append, List.length_append, List.length_append, List.length_singleton, List.length_singleton]
    omega
termination_by p => SizeOf.sizeOf p
decreasing_by
  have := List.sizeOf_lt_of_mem hk
  simp only [Pat.mk.sizeOf_spec]
  omega

end Go.Proofs.YthdicdkgfmiepaaDoor

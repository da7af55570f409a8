/- What the evaluator's values and memory stand for. Our memory and the world's. Memory kept, made, written. A slice grown in its own block. A call's places; operations that hang on their operands alone. Operations: numbers, texts, comparisons. Operations on memory. Operations that hang on their operands alone. Slices, cut and made. -/
import Derived.Test.YtfmlgiafkbakcaaGreatDoorVa
import Derived.Deep.MidRow
import Derived.Deep.AppendSrc
import Derived.Tactics
import Derived.Below
import Derived.Laws.IdiomStrings
namespace Go.Proofs.YtfmlgiafkbakcaaGreatDoor.Ev

/-- a block, the place of our cell 0 in it, how many cells it has -/
structure Loc where
  g : Nat
  base : Nat
  size : Nat

abbrev Io := Nat → Option Loc

/-- a text's bytes -/
def decS : Nat → Nat → List UInt8
  | 0, _ => []
  | l + 1, n => UInt8.ofNat (n % 256) :: decS l (n / 256)

def strV (l n : Nat) : ByteArray := ⟨(decS l n).toArray⟩

mutual
def VR (ι : Io) : AV → Value → Prop
  | .int k n, v => v = .int k n
  | .bool b, v => v = .bool b
  | .str l n, v => v = .string (strV l n) ∧ n < 256 ^ l
  | .nilp, v => v = .pointer none
  | .ptr id off, v => ∃ l, ι id = some l ∧ v = .pointer (some ⟨l.g, l.base + off, none⟩)
  | .nils, v => v = .slice none 0 0
  | .sl id off len z ex, v => ∃ l a cap, ι id = some l ∧ v = .slice (some a) len cap ∧ len ≤ cap ∧ (ex = true → cap = len) ∧ (cap ≠ 0 → a = ⟨l.g, l.base + off, none⟩) ∧ l.base + off + cap * z ≤ l.size
  | .slen len, v => ∃ a cap, v = .slice a len cap
  | .nilm, v => v = .map none
  | .map id, v => ∃ l, ι id = some l ∧ v = .map (some l.g)
  | .nilf, v => v = .nilFunc
  | .nili, v => v = .nilIface
  | .fn f first caps, v => ∃ a b : List Value, v = .func (.func f) a.toArray b.toArray ∧ VRl ι first a ∧ VRl ι caps b
  | .ifc t x, v => ∃ u, v = .iface t u ∧ VR ι x u
  | .agg cs, v => ∃ l : List Value, v = .agg l.toArray ∧ VRl ι cs l ∧ ∀ u ∈ l, u.oneCell' = true
  | .tup cs, v => ∃ l : List Value, v = .tuple l.toArray ∧ VRl ι cs l
  | .nil, _ => False
  | .cons _ _, _ => False
def VRl (ι : Io) : AV → List Value → Prop
  | .nil, l => l = []
  | .cons a b, l => ∃ v m, l = v :: m ∧ VR ι a v ∧ VRl ι b m
  | _, _ => False
end

/-- places once given stay -/
def Ext (ι ι' : Io) : Prop := ∀ id l, ι id = some l → ι' id = some l

theorem Ext.refl (ι : Io) : Ext ι ι := fun _ _ h => h
theorem Ext.trans {a b c : Io} (h : Ext a b) (k : Ext b c) : Ext a c := fun id l e => k id l (h id l e)

theorem VR.mono {ι ι' : Io} (h : Ext ι ι') : ∀ a : AV, (∀ v, VR ι a v → VR ι' a v) ∧ (∀ l, VRl ι a l → VRl ι' a l) := by
  intro a
  induction a with
  | int | bool | nilp | nils | slen | nilm | nilf | nili | str => exact ⟨fun v hv => by simpa only [VR] using hv, fun l hl => by simp only [VRl] at hl⟩
  | ptr id off => exact ⟨fun v hv => by simp only [VR] at hv ⊢; obtain ⟨l, h1, h2⟩ := hv; exact ⟨l, h _ _ h1, h2⟩, fun l hl => by simp only [VRl] at hl⟩
  | map id => exact ⟨fun v hv => by simp only [VR] at hv ⊢; obtain ⟨l, h1, h2⟩ := hv; exact ⟨l, h _ _ h1, h2⟩, fun l hl => by simp only [VRl] at hl⟩
  | sl id off len z ex => exact ⟨fun v hv => by simp only [VR] at hv ⊢; obtain ⟨l, a, c, h1, h2⟩ := hv; exact ⟨l, a, c, h _ _ h1, h2⟩, fun l hl => by simp only [VRl] at hl⟩
  | fn f x y hx hy => exact ⟨fun v hv => by simp only [VR] at hv ⊢; obtain ⟨a, b, h1, h2, h3⟩ := hv; exact ⟨a, b, h1, hx.2 _ h2, hy.2 _ h3⟩, fun l hl => by simp only [VRl] at hl⟩
  | ifc t x hx => exact ⟨fun v hv => by simp only [VR] at hv ⊢; obtain ⟨u, h1, h2⟩ := hv; exact ⟨u, h1, hx.1 _ h2⟩, fun l hl => by simp only [VRl] at hl⟩
  | agg x hx => exact ⟨fun v hv => by simp only [VR] at hv ⊢; obtain ⟨l, h1, h2, h3⟩ := hv; exact ⟨l, h1, hx.2 _ h2, h3⟩, fun l hl => by simp only [VRl] at hl⟩
  | tup x hx => exact ⟨fun v hv => by simp only [VR] at hv ⊢; obtain ⟨l, h1, h2⟩ := hv; exact ⟨l, h1, hx.2 _ h2⟩, fun l hl => by simp only [VRl] at hl⟩
  | nil => exact ⟨fun v hv => by simp only [VR] at hv, fun l hl => by simpa only [VRl] using hl⟩
  | cons a b ha hb => exact ⟨fun v hv => by simp only [VR] at hv, fun l hl => by simp only [VRl] at hl ⊢; obtain ⟨v, m, h1, h2, h3⟩ := hl; exact ⟨v, m, h1, ha.1 _ h2, hb.2 _ h3⟩⟩

theorem VR.ext {ι ι' : Io} {a : AV} {v : Value} (hv : VR ι a v) (h : Ext ι ι') : VR ι' a v := (VR.mono h a).1 v hv
theorem VRl.ext {ι ι' : Io} {a : AV} {l : List Value} (hv : VRl ι a l) (h : Ext ι ι') : VRl ι' a l := (VR.mono h a).2 l hv

/-- a list as one of values -/
theorem VRl.length {ι : Io} : ∀ {a : AV} {l : List Value}, VRl ι a l → a.length = l.length
  | .nil, l, h => by simp only [VRl] at h; subst h; rfl
  | .cons a b, l, h => by simp only [VRl] at h; obtain ⟨v, m, rfl, _, h3⟩ := h; simp [AV.length, VRl.length h3]

theorem VRl.append {ι : Io} {b : AV} {m : List Value} (hb : VRl ι b m) : ∀ {a : AV} {l : List Value}, VRl ι a l → VRl ι (a.append b) (l ++ m)
  | .nil, l, h => by simp only [VRl] at h; subst h; simpa [AV.append] using hb
  | .cons a c, l, h => by
    simp only [VRl] at h
    obtain ⟨v, m', rfl, h2, h3⟩ := h
    simp only [AV.append, VRl]
    exact ⟨v, _, rfl, h2, VRl.append hb h3⟩

theorem VRl.take {ι : Io} : ∀ (n : Nat) {a : AV} {l : List Value}, VRl ι a l → VRl ι (a.take n) (l.take n)
  | 0, a, l, _ => by simp [AV.take, VRl]
  | n + 1, .nil, l, h => by simp only [VRl] at h; subst h; simp [AV.take, VRl]
  | n + 1, .cons a b, l, h => by
    simp only [VRl] at h
    obtain ⟨v, m, rfl, h2, h3⟩ := h
    simp only [AV.take, VRl, List.take_succ_cons]
    exact ⟨v, _, rfl, h2, VRl.take n h3⟩

theorem VRl.drop {ι : Io} : ∀ (n : Nat) {a : AV} {l : List Value}, VRl ι a l → VRl ι (a.drop n) (l.drop n)
  | 0, a, l, h => by cases a <;> simpa [AV.drop] using h
  | n + 1, .nil, l, h => by simp only [VRl] at h; subst h; simp [AV.drop, VRl]
  | n + 1, .cons a b, l, h => by
    simp only [VRl] at h
    obtain ⟨v, m, rfl, h2, h3⟩ := h
    simp only [AV.drop, List.drop_succ_cons]
    exact VRl.drop n h3

theorem VRl.nth {ι : Io} : ∀ (n : Nat) {a x : AV} {l : List Value}, VRl ι a l → a.nth n = some x → ∃ v, l[n]? = some v ∧ VR ι x v
  | 0, .cons a b, x, l, h, hx => by
    simp only [VRl] at h
    obtain ⟨v, m, rfl, h2, h3⟩ := h
    simp only [AV.nth, Option.some.injEq] at hx
    subst hx
    exact ⟨v, rfl, h2⟩
  | n + 1, .cons a b, x, l, h, hx => by
    simp only [VRl] at h
    obtain ⟨v, m, rfl, h2, h3⟩ := h
    simp only [AV.nth] at hx
    simpa using VRl.nth n h3 hx
  | 0, .nil, _, _, _, hx => by simp [AV.nth] at hx
  | n + 1, .nil, _, _, _, hx => by simp [AV.nth] at hx

/-- values of one cell -/
def VRc (ι : Io) (a : AV) (v : Value) : Prop := VR ι a v ∧ v.oneCell' = true

/-- a value's cells -/
theorem VR.cells {ι : Io} {a cs : AV} {v : Value} (h : VR ι a v) (hc : a.cells = some cs) : VRl ι cs v.cells.toList ∧ ∀ u ∈ v.cells.toList, u.oneCell' = true := by
  cases a <;> simp only [VR] at h <;> simp only [AV.cells, Option.some.injEq, reduceCtorEq] at hc <;> try subst hc
  case agg cs =>
    obtain ⟨l, rfl, h1, h2⟩ := h
    exact ⟨by simpa [Value.cells] using h1, by simpa [Value.cells] using h2⟩
  case ifc t x => obtain ⟨u, rfl, h2⟩ := h; exact ⟨by simp only [Value.cells, VRl]; exact ⟨_, _, rfl, by simp only [VR]; exact ⟨u, rfl, h2⟩, rfl⟩, by simp [Value.cells, Value.oneCell']⟩
  case int k n => subst h; simp [Value.cells, VRl, VR, Value.oneCell']
  case bool b => subst h; simp [Value.cells, VRl, VR, Value.oneCell']
  case str l n => obtain ⟨rfl, h⟩ := h; simp [Value.cells, VRl, VR, Value.oneCell', h]
  case nilp => subst h; simp [Value.cells, VRl, VR, Value.oneCell']
  case ptr id off => obtain ⟨l, h1, rfl⟩ := h; simp [Value.cells, VRl, VR, Value.oneCell', h1]
  case nils => subst h; simp [Value.cells, VRl, VR, Value.oneCell']
  case sl id off len z ex => obtain ⟨l, a, c, h1, rfl, h2⟩ := h; simp only [Value.cells, VRl, VR]; exact ⟨⟨_, _, rfl, ⟨l, a, c, h1, rfl, h2⟩, rfl⟩, by simp [Value.oneCell']⟩
  case slen len => obtain ⟨a, c, rfl⟩ := h; simp [Value.cells, VRl, VR, Value.oneCell']
  case nilm => subst h; simp [Value.cells, VRl, VR, Value.oneCell']
  case map id => obtain ⟨l, h1, rfl⟩ := h; simp [Value.cells, VRl, VR, Value.oneCell', h1]
  case nilf => subst h; simp [Value.cells, VRl, VR, Value.oneCell']
  case nili => subst h; simp [Value.cells, VRl, VR, Value.oneCell']
  case fn f x y => obtain ⟨a, b, rfl, h1, h2⟩ := h; simp only [Value.cells, VRl, VR]; exact ⟨⟨_, _, rfl, ⟨a, b, rfl, h1, h2⟩, rfl⟩, by simp [Value.oneCell']⟩

end Go.Proofs.YtfmlgiafkbakcaaGreatDoor.Ev

namespace Go.Proofs.YtfmlgiafkbakcaaGreatDoor.Ev

/-! ### trees -/
section
variable {α : Type}

theorem div4 (m : Nat) : Nat.div m 4 = m / 4 := rfl
theorem mod4 (m : Nat) : Nat.mod m 4 = m % 4 := rfl

theorem Tr.get_sing (x : Option α) : ∀ (f k : Nat), k < f → (Tr.sing x f k).get k = x
  | 0, _, h => absurd h (by omega)
  | f + 1, 0, _ => by simp [Tr.sing, Tr.get]
  | f + 1, m + 1, h => by
    have ih := Tr.get_sing x f (Nat.div m 4) (by rw [div4]; omega)
    rcases h4 : Nat.mod m 4 with _ | _ | _ | k <;> simp [Tr.sing, Tr.get, h4, ih]

theorem Tr.get_sing_ne (x : Option α) : ∀ (f k j : Nat), j ≠ k → (Tr.sing x f k).get j = none
  | 0, _, _, _ => by simp [Tr.sing, Tr.get]
  | f + 1, 0, 0, h => absurd rfl h
  | f + 1, 0, j + 1, _ => by rcases h4 : Nat.mod j 4 with _ | _ | _ | k <;> simp [Tr.sing, Tr.get, h4]
  | f + 1, m + 1, 0, _ => by rcases h4 : Nat.mod m 4 with _ | _ | _ | k <;> simp [Tr.sing, Tr.get, h4]
  | f + 1, m + 1, j + 1, h => by
    by_cases hd : Nat.div j 4 = Nat.div m 4
    · have h5 : Nat.mod j 4 ≠ Nat.mod m 4 := by rw [mod4, mod4]; rw [div4, div4] at hd; omega
      have b1 : Nat.mod j 4 < 4 := Nat.mod_lt _ (by omega)
      have b2 : Nat.mod m 4 < 4 := Nat.mod_lt _ (by omega)
      rcases h4 : Nat.mod m 4 with _ | _ | _ | _ | k <;> rcases h6 : Nat.mod j 4 with _ | _ | _ | _ | q <;> first | (rw [h4, h6] at h5; exact absurd rfl h5) | omega | simp [Tr.sing, Tr.get, h4, h6]
    · have ih := Tr.get_sing_ne x f (Nat.div m 4) (Nat.div j 4) hd
      rcases h4 : Nat.mod m 4 with _ | _ | _ | k <;> rcases h6 : Nat.mod j 4 with _ | _ | _ | q <;> simp [Tr.sing, Tr.get, h4, h6, ih]

theorem Tr.get_over (w : α) (x : Option α) : ∀ (f k : Nat), k < f → (Tr.over w x f k).get k = x
  | 0, _, h => absurd h (by omega)
  | f + 1, 0, _ => by simp [Tr.over, Tr.get]
  | f + 1, m + 1, h => by
    have ih := Tr.get_over w x f (Nat.div m 4) (by rw [div4]; omega)
    rcases h4 : Nat.mod m 4 with _ | _ | _ | k <;> simp [Tr.over, Tr.get, h4, ih]

theorem Tr.get_over_ne (w : α) (x : Option α) : ∀ (f k j : Nat), j ≠ k → (Tr.over w x f k).get j = some w
  | 0, _, _, _ => by simp [Tr.over, Tr.get]
  | f + 1, 0, 0, h => absurd rfl h
  | f + 1, 0, j + 1, _ => by rcases h4 : Nat.mod j 4 with _ | _ | _ | k <;> simp [Tr.over, Tr.get, h4]
  | f + 1, m + 1, 0, _ => by rcases h4 : Nat.mod m 4 with _ | _ | _ | k <;> simp [Tr.over, Tr.get, h4]
  | f + 1, m + 1, j + 1, h => by
    by_cases hd : Nat.div j 4 = Nat.div m 4
    · have h5 : Nat.mod j 4 ≠ Nat.mod m 4 := by rw [mod4, mod4]; rw [div4, div4] at hd; omega
      have b1 : Nat.mod j 4 < 4 := Nat.mod_lt _ (by omega)
      have b2 : Nat.mod m 4 < 4 := Nat.mod_lt _ (by omega)
      rcases h4 : Nat.mod m 4 with _ | _ | _ | _ | k <;> rcases h6 : Nat.mod j 4 with _ | _ | _ | _ | q <;> first | (rw [h4, h6] at h5; exact absurd rfl h5) | omega | simp [Tr.over, Tr.get, h4, h6]
    · have ih := Tr.get_over_ne w x f (Nat.div m 4) (Nat.div j 4) hd
      rcases h4 : Nat.mod m 4 with _ | _ | _ | k <;> rcases h6 : Nat.mod j 4 with _ | _ | _ | q <;> simp [Tr.over, Tr.get, h4, h6, ih]

theorem Tr.get_set (x : Option α) : ∀ (t : Tr α) (k : Nat), (t.set x k).get k = x
  | .nil, k => by simp only [Tr.set]; exact Tr.get_sing x _ k (by omega)
  | .full w, k => by simp only [Tr.set]; exact Tr.get_over w x _ k (by omega)
  | .node v a b c d, 0 => by simp [Tr.set, Tr.get]
  | .node v a b c d, m + 1 => by
    have i1 := Tr.get_set x a (Nat.div m 4)
    have i2 := Tr.get_set x b (Nat.div m 4)
    have i3 := Tr.get_set x c (Nat.div m 4)
    have i4 := Tr.get_set x d (Nat.div m 4)
    rcases h4 : Nat.mod m 4 with _ | _ | _ | k <;> simp [Tr.set, Tr.get, h4, i1, i2, i3, i4]

theorem Tr.get_set_ne (x : Option α) : ∀ (t : Tr α) (k j : Nat), j ≠ k → (t.set x k).get j = t.get j
  | .nil, k, j, h => by simp only [Tr.set, Tr.get]; exact Tr.get_sing_ne x _ k j h
  | .full w, k, j, h => by simp only [Tr.set, Tr.get]; exact Tr.get_over_ne w x _ k j h
  | .node v a b c d, 0, 0, h => absurd rfl h
  | .node v a b c d, 0, j + 1, _ => by rcases h4 : Nat.mod j 4 with _ | _ | _ | k <;> simp [Tr.set, Tr.get, h4]
  | .node v a b c d, m + 1, 0, _ => by rcases h4 : Nat.mod m 4 with _ | _ | _ | k <;> simp [Tr.set, Tr.get, h4]
  | .node v a b c d, m + 1, j + 1, h => by
    by_cases hd : Nat.div j 4 = Nat.div m 4
    · have h5 : Nat.mod j 4 ≠ Nat.mod m 4 := by rw [mod4, mod4]; rw [div4, div4] at hd; omega
      have b1 : Nat.mod j 4 < 4 := Nat.mod_lt _ (by omega)
      have b2 : Nat.mod m 4 < 4 := Nat.mod_lt _ (by omega)
      rcases h4 : Nat.mod m 4 with _ | _ | _ | _ | k <;> rcases h6 : Nat.mod j 4 with _ | _ | _ | _ | q <;> first | (rw [h4, h6] at h5; exact absurd rfl h5) | omega | simp [Tr.set, Tr.get, h4, h6]
    · have i1 := Tr.get_set_ne x a (Nat.div m 4) (Nat.div j 4) hd
      have i2 := Tr.get_set_ne x b (Nat.div m 4) (Nat.div j 4) hd
      have i3 := Tr.get_set_ne x c (Nat.div m 4) (Nat.div j 4) hd
      have i4 := Tr.get_set_ne x d (Nat.div m 4) (Nat.div j 4) hd
      rcases h4 : Nat.mod m 4 with _ | _ | _ | k <;> rcases h6 : Nat.mod j 4 with _ | _ | _ | q <;> simp [Tr.set, Tr.get, h4, h6, i1, i2, i3, i4]

end

/-- cells laid from k on -/
theorem Tr.get_putL_out : ∀ (l : AV) (t : Tr AV) (k j : Nat), (j < k ∨ k + l.length ≤ j) → (t.putL k l).get j = t.get j
  | .nil, t, k, j, _ => by simp [Tr.putL]
  | .cons a b, t, k, j, h => by
    simp only [AV.length] at h
    simp only [Tr.putL]
    rw [Tr.get_putL_out b _ (Nat.succ k) j (by omega), Tr.get_set_ne _ _ _ _ (by omega)]
  | .int .., _, _, _, _ | .bool .., _, _, _, _ | .str .., _, _, _, _ | .nilp, _, _, _, _ | .ptr .., _, _, _, _ | .nils, _, _, _, _ | .sl .., _, _, _, _ | .slen .., _, _, _, _ | .nilm, _, _, _, _ | .map .., _, _, _, _ | .nilf, _, _, _, _ | .nili, _, _, _, _ | .fn .., _, _, _, _ | .ifc .., _, _, _, _ | .agg .., _, _, _, _ | .tup .., _, _, _, _ => by simp [Tr.putL]

theorem Tr.get_putL_in : ∀ (l : AV) (t : Tr AV) (k j : Nat), j < l.length → (t.putL k l).get (k + j) = l.nth j
  | .cons a b, t, k, 0, _ => by
    simp only [Tr.putL, Nat.add_zero, AV.nth]
    rw [Tr.get_putL_out b _ (Nat.succ k) k (by omega), Tr.get_set]
  | .cons a b, t, k, j + 1, h => by
    simp only [AV.length] at h
    simp only [Tr.putL, AV.nth]
    rw [show k + (j + 1) = Nat.succ k + j by omega]
    exact Tr.get_putL_in b _ _ j (by omega)
  | .nil, _, _, _, h | .int .., _, _, _, h | .bool .., _, _, _, h | .str .., _, _, _, h | .nilp, _, _, _, h | .ptr .., _, _, _, h | .nils, _, _, _, h | .sl .., _, _, _, h | .slen .., _, _, _, h | .nilm, _, _, _, h | .map .., _, _, _, h | .nilf, _, _, _, h | .nili, _, _, _, h | .fn .., _, _, _, h | .ifc .., _, _, _, h | .agg .., _, _, _, h | .tup .., _, _, _, h => absurd h (by simp [AV.length])

/-! ### our memory and the world's -/

def MR (ι : Io) : AV → List MapEntry → Prop
  | .nil, l => l = []
  | .cons (.cons k v) r, l => ∃ e m, l = e :: m ∧ VR ι k e.key ∧ VR ι v e.val ∧ MR ι r m
  | _, _ => False

/-- a block of ours lies in the world -/
def OR (w : World) (ι : Io) (id : Nat) : AObj → Prop
  | .cells c n _ _ => ∃ l arr t, ι id = some l ∧ w.heap[l.g]? = some (.cells arr t (0, 0)) ∧ arr.size = l.size ∧ l.base + n ≤ l.size ∧
      ∀ i a, i < n → c.get i = some a → ∃ v, arr[l.base + i]? = some v ∧ VR ι a v ∧ v.oneCell' = true
  | .map es => ∃ l ents clk, ι id = some l ∧ w.heap[l.g]? = some (.map ents clk) ∧ MR ι es ents.toList

def isOwn : Option AObj → Bool
  | some (.cells _ _ own _) => own
  | some (.map _) => true
  | none => false

def Owned (h : H) (ι : Io) (g : Nat) : Prop := ∃ id l, ι id = some l ∧ l.g = g ∧ isOwn (h.objs.get id) = true

/-- what another number may be that lies in the same block as one that may be written -/
def Anc (i : AObj) (j : Nat) (oj : AObj) (a b : Loc) : Prop := match i, oj with
  | .cells _ n true l, .cells _ n' false _ => j ∈ l ∧ b.base + n' ≤ a.base + n
  | _, _ => False

structure HR (h : H) (ι : Io) (w : World) : Prop where
  obj : ∀ id o, h.objs.get id = some o → OR w ι id o
  share : ∀ i j oi oj a b, h.objs.get i = some oi → h.objs.get j = some oj → i ≠ j → isOwn (some oi) = true → ι i = some a → ι j = some b → a.g = b.g → Anc oi j oj a b
  fresh : ∀ id, h.next ≤ id → h.objs.get id = none ∧ ι id = none
  lt : ∀ id l, ι id = some l → l.g < w.heap.size

structure Stp (h : H) (ι : Io) (w : World) (h' : H) (ι' : Io) (w' : World) : Prop where
  ext : Ext ι ι'
  size : w.heap.size ≤ w'.heap.size
  blk : ∀ g, g < w.heap.size → ¬ Owned h ι g → w'.heap[g]? = w.heap[g]?
  own : ∀ g, Owned h' ι' g → w.heap.size ≤ g ∨ Owned h ι g
  os : w'.os = w.os
  tape : w'.tape = w.tape
  output : w'.output = w.output
  next : h.next ≤ h'.next
  new : ∀ id l, ι' id = some l → ι id = none → h.next ≤ id ∧ (w.heap.size ≤ l.g ∨ Owned h ι l.g)

theorem Stp.refl (h : H) (ι : Io) (w : World) : Stp h ι w h ι w :=
  ⟨Ext.refl _, Nat.le_refl _, fun _ _ _ => rfl, fun _ hg => .inr hg, rfl, rfl, rfl, Nat.le_refl _, fun id l h1 h2 => by rw [h2] at h1; cases h1⟩

theorem Stp.trans {h h' h'' : H} {ι ι' ι'' : Io} {w w' w'' : World} (s : Stp h ι w h' ι' w') (t : Stp h' ι' w' h'' ι'' w'') : Stp h ι w h'' ι'' w'' where
  ext := s.ext.trans t.ext
  size := Nat.le_trans s.size t.size
  blk g hg ho := by
    rw [t.blk g (Nat.lt_of_lt_of_le hg s.size) (fun ho' => ?_), s.blk g hg ho]
    rcases s.own g ho' with h1 | h1
    · omega
    · exact ho h1
  own g hg := by
    rcases t.own g hg with h1 | h1
    · exact .inl (Nat.le_trans s.size h1)
    · exact s.own g h1
  os := t.os.trans s.os
  tape := t.tape.trans s.tape
  output := t.output.trans s.output
  next := Nat.le_trans s.next t.next
  new id l h1 h2 := by
    cases hi : ι' id with
    | none =>
      obtain ⟨h3, h4⟩ := t.new id l h1 hi
      refine ⟨Nat.le_trans s.next h3, ?_⟩
      rcases h4 with h4 | h4
      · exact .inl (Nat.le_trans s.size h4)
      · exact s.own _ h4
    | some l' =>
      have : l' = l := by have := t.ext _ _ hi; rw [h1] at this; injection this with this; exact this.symm
      subst this
      exact s.new id l' hi h2

end Go.Proofs.YtfmlgiafkbakcaaGreatDoor.Ev

namespace Go.Proofs.YtfmlgiafkbakcaaGreatDoor.Ev

def upd (ι : Io) (k : Nat) (l : Loc) : Io := fun id => if id = k then some l else ι id

theorem upd_ext {ι : Io} {k : Nat} {l : Loc} (h : ι k = none) : Ext ι (upd ι k l) := fun id l' e => by
  unfold upd
  split
  · rename_i hk; subst hk; rw [h] at e; cases e
  · exact e

theorem upd_same {ι : Io} {k : Nat} {l : Loc} : upd ι k l k = some l := by simp [upd]
theorem upd_ne {ι : Io} {k j : Nat} {l : Loc} (h : j ≠ k) : upd ι k l j = ι j := by simp [upd, h]

theorem MR.ext {ι ι' : Io} (h : Ext ι ι') : ∀ {es : AV} {l : List MapEntry}, MR ι es l → MR ι' es l
  | .nil, l, hm => hm
  | .cons (.cons k v) r, l, hm => by
    simp only [MR] at hm ⊢
    obtain ⟨e, m, h1, h2, h3, h4⟩ := hm
    exact ⟨e, m, h1, h2.ext h, h3.ext h, MR.ext h h4⟩

theorem OR.ext {w w' : World} {ι ι' : Io} {id : Nat} {o : AObj} (h : OR w ι id o) (he : Ext ι ι') (hb : ∀ l, ι id = some l → w'.heap[l.g]? = w.heap[l.g]?) : OR w' ι' id o := by
  cases o with
  | cells c n own ancs =>
    obtain ⟨l, arr, t, h1, h2, h3, h4, h5⟩ := h
    exact ⟨l, arr, t, he _ _ h1, (hb l h1).trans h2, h3, h4, fun i a hi ha => by
      obtain ⟨v, h6, h7, h8⟩ := h5 i a hi ha
      exact ⟨v, h6, h7.ext he, h8⟩⟩
  | map es =>
    obtain ⟨l, ents, clk, h1, h2, h3⟩ := h
    exact ⟨l, ents, clk, he _ _ h1, (hb l h1).trans h2, h3.ext he⟩

theorem OR.lt {w : World} {ι : Io} {id : Nat} {o : AObj} (h : OR w ι id o) : ∃ l, ι id = some l ∧ l.g < w.heap.size := by
  have key : ∀ (g : Nat) (o : Obj), w.heap[g]? = some o → g < w.heap.size := fun g o hg => by
    apply Nat.lt_of_not_le
    intro hge
    rw [Array.getElem?_eq_none hge] at hg
    cases hg
  cases o with
  | cells c n own ancs => obtain ⟨l, arr, t, h1, h2, _⟩ := h; exact ⟨l, h1, key _ _ h2⟩
  | map es => obtain ⟨l, ents, clk, h1, h2, _⟩ := h; exact ⟨l, h1, key _ _ h2⟩

/-- the same blocks -/
theorem HR.same {h : H} {ι : Io} {w w' : World} (hr : HR h ι w) (hw : w'.heap = w.heap) : HR h ι w' :=
  ⟨fun id o ho => (hr.obj id o ho).ext (Ext.refl _) (fun l _ => by rw [hw]), hr.share, hr.fresh, fun id l hl => by rw [hw]; exact hr.lt id l hl⟩

theorem Stp.same {h : H} {ι : Io} {w w' : World} (hw : w'.heap = w.heap) (h1 : w'.os = w.os) (h2 : w'.tape = w.tape) (h3 : w'.output = w.output) : Stp h ι w h ι w' :=
  ⟨Ext.refl _, by rw [hw]; exact Nat.le_refl _, fun _ _ _ => by rw [hw], fun _ hg => .inr hg, h1, h2, h3, Nat.le_refl _, fun id l a b => by rw [b] at a; cases a⟩

theorem get_push (w : World) (o : Obj) {g : Nat} (hg : g < w.heap.size) : (w.heap.push o)[g]? = w.heap[g]? := by
  rw [Array.getElem?_push]
  have : g ≠ w.heap.size := by omega
  simp [this]

/-- a new block -/
theorem HR.push {h : H} {ι : Io} {w w' : World} (hr : HR h ι w) (o : AObj) (ob : Obj) (base size : Nat) (hw : w'.heap = w.heap.push ob) (h1 : w'.os = w.os) (h2 : w'.tape = w.tape) (h3 : w'.output = w.output)
    (ho : OR w' (upd ι h.next ⟨w.heap.size, base, size⟩) h.next o) :
    HR ⟨h.objs.set (some o) h.next, Nat.succ h.next⟩ (upd ι h.next ⟨w.heap.size, base, size⟩) w' ∧ Stp h ι w ⟨h.objs.set (some o) h.next, Nat.succ h.next⟩ (upd ι h.next ⟨w.heap.size, base, size⟩) w' := by
  have hn := (hr.fresh h.next (Nat.le_refl _)).2
  have he : Ext ι (upd ι h.next ⟨w.heap.size, base, size⟩) := upd_ext hn
  have hlt : ∀ id o l, h.objs.get id = some o → ι id = some l → l.g < w.heap.size := fun id o l ho hl => by
    obtain ⟨l', h4, h5⟩ := (hr.obj id o ho).lt
    rw [h4] at hl; injection hl with hl; subst hl; exact h5
  have hne : ∀ {id : Nat} {o' : AObj}, h.objs.get id = some o' → id ≠ h.next := fun hg hk => by
    rw [hk, (hr.fresh h.next (Nat.le_refl _)).1] at hg; cases hg
  refine ⟨⟨fun id o' hg => ?_, fun i j oi oj a b hi hj hij hown ha hb hab => ?_, fun id hid => ?_, fun id l hl => by
    by_cases hk : id = h.next
    · subst hk
      rw [upd_same] at hl
      injection hl with hl
      subst hl
      rw [hw, Array.size_push]
      exact Nat.lt_succ_self _
    · rw [upd_ne hk] at hl
      rw [hw, Array.size_push]
      exact Nat.lt_succ_of_lt (hr.lt id l hl)⟩, ⟨he, ?_, fun g hg _ => ?_, fun g hg => ?_, h1, h2, h3, Nat.le_succ _, fun id l hl hl2 => ?_⟩⟩
  · by_cases hk : id = h.next
    · subst hk
      rw [Tr.get_set] at hg
      injection hg with hg
      subst hg
      exact ho
    · rw [Tr.get_set_ne _ _ _ _ hk] at hg
      refine (hr.obj id o' hg).ext he fun l hl => ?_
      rw [hw, get_push w ob (hlt id o' l hg hl)]
  · by_cases hki : i = h.next
    · subst hki
      rw [Tr.get_set_ne _ _ _ _ (Ne.symm hij)] at hj
      rw [upd_same] at ha
      rw [upd_ne (Ne.symm hij)] at hb
      injection ha with ha
      subst ha
      have := hlt j oj b hj hb
      simp at hab
      omega
    · rw [Tr.get_set_ne _ _ _ _ hki] at hi
      rw [upd_ne hki] at ha
      by_cases hkj : j = h.next
      · subst hkj
        rw [upd_same] at hb
        injection hb with hb
        subst hb
        have := hlt i oi a hi ha
        simp at hab
        omega
      · rw [Tr.get_set_ne _ _ _ _ hkj] at hj
        rw [upd_ne hkj] at hb
        exact hr.share i j oi oj a b hi hj hij hown ha hb hab
  · have hid' : Nat.succ h.next ≤ id := hid
    have hk : id ≠ h.next := by omega
    rw [Tr.get_set_ne _ _ _ _ hk, upd_ne hk]
    exact hr.fresh id (by omega)
  · rw [hw]; simp
  · rw [hw, get_push w ob hg]
  · obtain ⟨id, l, hl, hlg, hown⟩ := hg
    by_cases hk : id = h.next
    · subst hk
      rw [upd_same] at hl
      injection hl with hl
      subst hl
      exact .inl (by rw [← hlg]; exact Nat.le_refl _)
    · rw [upd_ne hk] at hl
      rw [Tr.get_set_ne _ _ _ _ hk] at hown
      exact .inr ⟨id, l, hl, hlg, hown⟩
  · by_cases hk : id = h.next
    · subst hk
      rw [upd_same] at hl
      injection hl with hl
      subst hl
      exact ⟨Nat.le_refl _, .inl (Nat.le_refl _)⟩
    · rw [upd_ne hk, hl2] at hl
      cases hl

/-- cells of a value, laid from 0 on -/
theorem cells_put {ι : Io} {l : AV} {vs : List Value} (h : VRl ι l vs) (h1 : ∀ u ∈ vs, u.oneCell' = true) : ∀ i a, i < l.length → ((Tr.nil : Tr AV).putL 0 l).get i = some a → ∃ v, vs[i]? = some v ∧ VR ι a v ∧ v.oneCell' = true := by
  intro i a hi ha
  have := Tr.get_putL_in l .nil 0 i hi
  rw [Nat.zero_add] at this
  rw [this] at ha
  obtain ⟨v, h2, h3⟩ := VRl.nth i h ha
  exact ⟨v, h2, h3, h1 v (List.mem_of_getElem? h2)⟩

theorem HR.newCells {h : H} {ι : Io} {w w' : World} (hr : HR h ι w) (c : Tr AV) (n : Nat) (arr : Array Value) (t : TypeId) (hw : w'.heap = w.heap.push (.cells arr t)) (h1 : w'.os = w.os) (h2 : w'.tape = w.tape) (h3 : w'.output = w.output)
    (hn : n ≤ arr.size) (hc : ∀ i a, i < n → c.get i = some a → ∃ v, arr[i]? = some v ∧ VR ι a v ∧ v.oneCell' = true) :
    HR ⟨h.objs.set (some (.cells c n true [])) h.next, Nat.succ h.next⟩ (upd ι h.next ⟨w.heap.size, 0, arr.size⟩) w' ∧ Stp h ι w ⟨h.objs.set (some (.cells c n true [])) h.next, Nat.succ h.next⟩ (upd ι h.next ⟨w.heap.size, 0, arr.size⟩) w' := by
  refine hr.push _ _ 0 arr.size hw h1 h2 h3 ⟨_, arr, t, upd_same, ?_, rfl, by simpa using hn, fun i a hi ha => ?_⟩
  · rw [hw]; simp
  · obtain ⟨v, h4, h5, h6⟩ := hc i a hi ha
    exact ⟨v, by simpa using h4, h5.ext (upd_ext (hr.fresh _ (Nat.le_refl _)).2), h6⟩

/-- fewer -/
theorem HR.sub {h h' : H} {ι : Io} {w : World} (hr : HR h ι w) (hs : ∀ id o, h'.objs.get id = some o → h.objs.get id = some o) (hn : h'.next = h.next) : HR h' ι w ∧ Stp h ι w h' ι w := by
  refine ⟨⟨fun id o ho => hr.obj id o (hs id o ho), fun i j oi oj a b hi hj => hr.share i j oi oj a b (hs _ _ hi) (hs _ _ hj), fun id hid => ?_, hr.lt⟩, ⟨Ext.refl _, Nat.le_refl _, fun _ _ _ => rfl, fun g hg => .inr ?_, rfl, rfl, rfl, by rw [hn]; exact Nat.le_refl _, fun id l a b => by rw [b] at a; cases a⟩⟩
  · rw [hn] at hid
    obtain ⟨h1, h2⟩ := hr.fresh id hid
    refine ⟨?_, h2⟩
    cases hg : h'.objs.get id with
    | none => rfl
    | some o => rw [hs id o hg] at h1; cases h1
  · obtain ⟨id, l, hl, hlg, ho⟩ := hg
    refine ⟨id, l, hl, hlg, ?_⟩
    cases hg : h'.objs.get id with
    | none => rw [hg] at ho; cases ho
    | some o => rw [hs id o hg]; rwa [hg] at ho

theorem get_kill : ∀ (l : List Nat) (t : Tr AObj) (id : Nat), (kill l t).get id = if id ∈ l then none else t.get id
  | [], t, id => by simp [kill]
  | k :: l, t, id => by
    simp only [kill]
    rw [get_kill l _ id]
    by_cases h1 : id ∈ l
    · simp [h1]
    · by_cases h2 : id = k
      · subst h2; simp [Tr.get_set]
      · simp [h1, h2, Tr.get_set_ne _ _ _ _ h2]

/-- some cells of a block written anew -/
theorem HR.put {h h' : H} {ι : Io} {w w' : World} (hr : HR h ι w) (id off : Nat) (cs : AV) (hp : putA id off cs h = some h') (l : Loc) (hl : ι id = some l) (vs : List Value) (hv : VRl ι cs vs) (hv1 : ∀ u ∈ vs, u.oneCell' = true)
    (arr : Array Value) (t : TypeId) (harr : w.heap[l.g]? = some (.cells arr t (0, 0))) (hw : w' = w.setRow l.g (arr.toList.take (l.base + off) ++ vs ++ arr.toList.drop (l.base + off + vs.length)).toArray) :
    HR h' ι w' ∧ Stp h ι w h' ι w' := by
  unfold putA at hp
  cases ho : h.objs.get id with
  | none => rw [ho] at hp; cases hp
  | some o =>
    rw [ho] at hp
    cases o with
    | map es => cases hp
    | cells c n own ancs =>
      simp only at hp
      split at hp
      case h_2 => cases hp
      rename_i hc
      injection hp with hp
      subst hp
      have hown : own = true := by revert hc; cases own <;> simp
      have hle : off + cs.length ≤ n := by
        subst hown
        simpa using hc
      subst hown
      obtain ⟨l', arr', t', hl', harr', hsz, hn, hcell⟩ := hr.obj id _ ho
      have : l' = l := by rw [hl] at hl'; injection hl' with hl'; exact hl'.symm
      subst this
      rw [harr] at harr'
      injection harr' with harr'
      injection harr' with e1 e2
      subst e1 e2
      have hlen := VRl.length hv
      have hnew : (arr.toList.take (l'.base + off) ++ vs ++ arr.toList.drop (l'.base + off + vs.length)).length = arr.size := by
        simp only [List.length_append, List.length_take, List.length_drop, Array.length_toList]
        omega
      have hfar : ∀ g, g ≠ l'.g → w'.heap[g]? = w.heap[g]? := fun g hg => by rw [hw]; exact setRow_other w l'.g g _ hg
      have hnear : w'.heap[l'.g]? = some (.cells (arr.toList.take (l'.base + off) ++ vs ++ arr.toList.drop (l'.base + off + vs.length)).toArray t (0, 0)) := by rw [hw]; exact setRow_heap w l'.g arr _ t (0, 0) harr
      have hget : ∀ j oj, ((kill ancs h.objs).set (some (.cells (c.putL off cs) n true [])) id).get j = some oj → j ≠ id → h.objs.get j = some oj ∧ j ∉ ancs := fun j oj hj hji => by
        rw [Tr.get_set_ne _ _ _ _ hji, get_kill] at hj
        by_cases hja : j ∈ ancs
        · simp [hja] at hj
        · simp only [hja, if_false] at hj; exact ⟨hj, hja⟩
      have hng : ∀ j oj b, ((kill ancs h.objs).set (some (.cells (c.putL off cs) n true [])) id).get j = some oj → j ≠ id → ι j = some b → b.g ≠ l'.g := fun j oj b hj hji hb hbg => by
        obtain ⟨h1, h2⟩ := hget j oj hj hji
        have := hr.share id j _ oj l' b ho h1 (Ne.symm hji) rfl hl hb hbg.symm
        cases oj with
        | map es => exact this
        | cells c' n' own' l'' =>
          cases own' with
          | true => exact this
          | false => exact h2 this.1
      refine ⟨⟨fun j oj hj => ?_, fun i j oi oj a b hi hj hij hown ha hb hab => ?_, fun j hj => ?_, fun j b hb => by rw [hw]; simpa using hr.lt j b hb⟩, ⟨Ext.refl _, by rw [hw]; simp, fun g hg hno => ?_, fun g hg => ?_, by rw [hw]; rfl, by rw [hw]; rfl, by rw [hw]; rfl, Nat.le_refl _, fun id l a b => by rw [b] at a; cases a⟩⟩
      · by_cases hji : j = id
        · subst hji
          simp only at hj
          rw [Tr.get_set] at hj
          injection hj with hj
          subst hj
          refine ⟨l', _, t, hl, hnear, by simpa [hsz] using hnew, hn, fun i a hi ha => ?_⟩
          by_cases hin : off ≤ i ∧ i < off + cs.length
          · have h3 := Tr.get_putL_in cs c off (i - off) (by omega)
            rw [show off + (i - off) = i by omega] at h3
            rw [h3] at ha
            obtain ⟨v, h4, h5⟩ := VRl.nth _ hv ha
            refine ⟨v, ?_, h5, hv1 v (List.mem_of_getElem? h4)⟩
            rw [List.getElem?_toArray, List.append_assoc, List.getElem?_append_right (by simp; omega), List.getElem?_append_left (by simp only [List.length_take, Array.length_toList]; omega), ← h4]
            congr 1
            simp only [List.length_take, Array.length_toList]
            omega
          · rw [Tr.get_putL_out cs c off i (by omega)] at ha
            obtain ⟨v, h4, h5, h6⟩ := hcell i a hi ha
            refine ⟨v, ?_, h5, h6⟩
            rw [List.getElem?_toArray, ← h4]
            by_cases hlt : i < off
            · rw [List.append_assoc, List.getElem?_append_left (by simp only [List.length_take, Array.length_toList]; omega), List.getElem?_take_of_lt (by omega), Array.getElem?_toList]
            · rw [List.getElem?_append_right (by simp only [List.length_append, List.length_take, Array.length_toList]; omega), List.getElem?_drop, ← Array.getElem?_toList]
              congr 1
              simp only [List.length_append, List.length_take, Array.length_toList]
              omega
        · obtain ⟨h1, _⟩ := hget j oj hj hji
          exact (hr.obj j oj h1).ext (Ext.refl _) fun b hb => hfar _ (hng j oj b hj hji hb)
      · by_cases hii : i = id
        · subst hii
          have := hng j oj b hj (Ne.symm hij) hb
          rw [hl] at ha
          injection ha with ha
          subst ha
          exact absurd hab.symm this
        · by_cases hjj : j = id
          · subst hjj
            have := hng i oi a hi hii ha
            rw [hl] at hb
            injection hb with hb
            subst hb
            exact absurd hab this
          · exact hr.share i j oi oj a b (hget i oi hi hii).1 (hget j oj hj hjj).1 hij hown ha hb hab
      · obtain ⟨h1, h2⟩ := hr.fresh j hj
        refine ⟨?_, h2⟩
        have hji : j ≠ id := fun e => by rw [e, ho] at h1; cases h1
        simp only
        rw [Tr.get_set_ne _ _ _ _ hji, get_kill, h1]
        split <;> rfl
      · refine hfar g fun hg' => hno ⟨id, l', hl, hg'.symm, by rw [ho]; rfl⟩
      · refine .inr ?_
        obtain ⟨j, b, hb, hbg, hown⟩ := hg
        by_cases hji : j = id
        · subst hji
          exact ⟨j, b, hb, hbg, by rw [ho]; rfl⟩
        · refine ⟨j, b, hb, hbg, ?_⟩
          cases hgj : ((kill ancs h.objs).set (some (.cells (c.putL off cs) n true [])) id).get j with
          | none => simp only at hown; rw [hgj] at hown; cases hown
          | some oj => rw [(hget j oj hgj hji).1]; simp only at hown; rwa [hgj] at hown

end Go.Proofs.YtfmlgiafkbakcaaGreatDoor.Ev

namespace Go.Proofs.YtfmlgiafkbakcaaGreatDoor.Ev

theorem HR.grow {h0 h1 : H} {ι : Io} {w w' : World} (hr : HR h1 ι w) (g B n2 K : Nat) (c2 : Tr AV) (ancs : List Nat) (arr : Array Value) (t : TypeId) (vs : List Value) (harr : w.heap[g]? = some (.cells arr t (0, 0)))
    (hw : w' = w.setRow g (arr.toList.take K ++ vs ++ arr.toList.drop (K + vs.length)).toArray) (hK : K + vs.length ≤ arr.size) (hB : B + n2 ≤ arr.size)
    (hno : ∀ j o b, h1.objs.get j = some o → ι j = some b → b.g = g → ∃ c n l, o = .cells c n false l ∧ b.base + n ≤ K ∧ b.base + n ≤ B + n2 ∧ j ∈ ancs)
    (hc : ∀ i a, i < n2 → c2.get i = some a → ∃ v, (arr.toList.take K ++ vs ++ arr.toList.drop (K + vs.length))[B + i]? = some v ∧ VR ι a v ∧ v.oneCell' = true)
    (hown : ∀ g', Owned h1 ι g' → Owned h0 ι g') (hg0 : Owned h0 ι g) (hnext : h1.next = h0.next) :
    HR ⟨h1.objs.set (some (.cells c2 n2 true ancs)) h1.next, Nat.succ h1.next⟩ (upd ι h1.next ⟨g, B, arr.size⟩) w' ∧ Stp h0 ι w ⟨h1.objs.set (some (.cells c2 n2 true ancs)) h1.next, Nat.succ h1.next⟩ (upd ι h1.next ⟨g, B, arr.size⟩) w' := by
  have hn := (hr.fresh h1.next (Nat.le_refl _)).2
  have he : Ext ι (upd ι h1.next ⟨g, B, arr.size⟩) := upd_ext hn
  have hnew : (arr.toList.take K ++ vs ++ arr.toList.drop (K + vs.length)).length = arr.size := by
    simp only [List.length_append, List.length_take, List.length_drop, Array.length_toList]
    omega
  have hfar : ∀ g', g' ≠ g → w'.heap[g']? = w.heap[g']? := fun g' hg => by rw [hw]; exact setRow_other w g g' _ hg
  have hnear : w'.heap[g]? = some (.cells (arr.toList.take K ++ vs ++ arr.toList.drop (K + vs.length)).toArray t (0, 0)) := by rw [hw]; exact setRow_heap w g arr _ t (0, 0) harr
  have hne : ∀ {id : Nat} {o' : AObj}, h1.objs.get id = some o' → id ≠ h1.next := fun hg hk => by
    rw [hk, (hr.fresh h1.next (Nat.le_refl _)).1] at hg; cases hg
  have hkeep : ∀ j oj, h1.objs.get j = some oj → OR w' (upd ι h1.next ⟨g, B, arr.size⟩) j oj := fun j oj hj => by
    obtain ⟨b, hb, _⟩ := (hr.obj j oj hj).lt
    by_cases hbg : b.g = g
    · obtain ⟨c, n, l, rfl, hle, _, _⟩ := hno j oj b hj hb hbg
      obtain ⟨b', arr', t', hb', harr', hsz, hn', hcell⟩ := hr.obj j _ hj
      have : b' = b := by rw [hb] at hb'; injection hb' with hb'; exact hb'.symm
      subst this
      rw [hbg, harr] at harr'
      injection harr' with harr'
      injection harr' with e1 e2
      subst e1 e2
      refine ⟨b', _, t, he _ _ hb, by rw [hbg]; exact hnear, by simpa using hnew.trans hsz, hn', fun i a hi ha => ?_⟩
      obtain ⟨v, h4, h5, h6⟩ := hcell i a hi ha
      refine ⟨v, ?_, h5.ext he, h6⟩
      rw [List.getElem?_toArray, ← h4, List.append_assoc, List.getElem?_append_left (by simp only [List.length_take, Array.length_toList]; omega), List.getElem?_take_of_lt (by omega), Array.getElem?_toList]
    · exact (hr.obj j oj hj).ext he fun b' hb' => by
        rw [hb] at hb'
        injection hb' with hb'
        subst hb'
        exact hfar _ hbg
  refine ⟨⟨fun j oj hj => ?_, fun i j oi oj a b hi hj hij hown' ha hb hab => ?_, fun j hj => ?_, fun j b hb => by
    have hsz : w'.heap.size = w.heap.size := by rw [hw]; simp
    rw [hsz]
    by_cases hk : j = h1.next
    · subst hk
      rw [upd_same] at hb
      injection hb with hb
      subst hb
      exact (Array.getElem?_eq_some_iff.1 harr).1
    · rw [upd_ne hk] at hb
      exact hr.lt j b hb⟩, ⟨he, by rw [hw]; simp, fun g' hg' hno' => ?_, fun g' hg' => ?_, by rw [hw]; rfl, by rw [hw]; rfl, by rw [hw]; rfl, by rw [hnext]; exact Nat.le_succ _, fun id l hl hl2 => ?_⟩⟩
  · by_cases hk : j = h1.next
    · subst hk
      simp only at hj
      rw [Tr.get_set] at hj
      injection hj with hj
      subst hj
      refine ⟨_, _, t, upd_same, hnear, by simpa using hnew, hB, fun i a hi ha => ?_⟩
      obtain ⟨v, h4, h5, h6⟩ := hc i a hi ha
      exact ⟨v, by rw [List.getElem?_toArray]; exact h4, h5.ext he, h6⟩
    · simp only at hj
      rw [Tr.get_set_ne _ _ _ _ hk] at hj
      exact hkeep j oj hj
  · simp only at hi hj
    by_cases hki : i = h1.next
    · subst hki
      rw [Tr.get_set] at hi
      injection hi with hi
      subst hi
      rw [Tr.get_set_ne _ _ _ _ (Ne.symm hij)] at hj
      rw [upd_same] at ha
      injection ha with ha
      subst ha
      rw [upd_ne (Ne.symm hij)] at hb
      obtain ⟨c, n, l, rfl, _, hle, hm⟩ := hno j oj b hj hb hab.symm
      exact ⟨hm, hle⟩
    · rw [Tr.get_set_ne _ _ _ _ hki] at hi
      rw [upd_ne hki] at ha
      by_cases hkj : j = h1.next
      · subst hkj
        rw [upd_same] at hb
        injection hb with hb
        subst hb
        obtain ⟨c, n, l, rfl, _⟩ := hno i oi a hi ha hab
        cases hown'
      · rw [Tr.get_set_ne _ _ _ _ hkj] at hj
        rw [upd_ne hkj] at hb
        exact hr.share i j oi oj a b hi hj hij hown' ha hb hab
  · have hj' : Nat.succ h1.next ≤ j := hj
    have hk : j ≠ h1.next := by omega
    simp only
    rw [Tr.get_set_ne _ _ _ _ hk, upd_ne hk]
    exact hr.fresh j (by omega)
  · exact hfar g' fun e => hno' (e ▸ hg0)
  · obtain ⟨id, l, hl, hlg, ho⟩ := hg'
    by_cases hk : id = h1.next
    · subst hk
      rw [upd_same] at hl
      injection hl with hl
      subst hl
      subst hlg
      exact .inr hg0
    · rw [upd_ne hk] at hl
      simp only at ho
      rw [Tr.get_set_ne _ _ _ _ hk] at ho
      exact .inr (hown g' ⟨id, l, hl, hlg, ho⟩)
  · by_cases hk : id = h1.next
    · subst hk
      rw [upd_same] at hl
      injection hl with hl
      subst hl
      exact ⟨by rw [hnext]; exact Nat.le_refl _, .inr hg0⟩
    · rw [upd_ne hk, hl2] at hl
      cases hl

/-- a block that bears no more -/
theorem HR.retire {h : H} {ι : Io} {w : World} (hr : HR h ι w) (id : Nat) (c : Tr AV) (n : Nat) (ancs : List Nat) (ho : h.objs.get id = some (.cells c n true ancs)) :
    HR ⟨h.objs.set (some (.cells c n false ancs)) id, h.next⟩ ι w ∧ (∀ g, Owned ⟨h.objs.set (some (.cells c n false ancs)) id, h.next⟩ ι g → Owned h ι g) := by
  have hget : ∀ j oj, (h.objs.set (some (.cells c n false ancs)) id).get j = some oj → (j = id ∧ oj = .cells c n false ancs) ∨ (j ≠ id ∧ h.objs.get j = some oj) := fun j oj hj => by
    by_cases hji : j = id
    · subst hji; rw [Tr.get_set] at hj; injection hj with hj; exact .inl ⟨rfl, hj.symm⟩
    · rw [Tr.get_set_ne _ _ _ _ hji] at hj; exact .inr ⟨hji, hj⟩
  refine ⟨⟨fun j oj hj => ?_, fun i j oi oj a b hi hj hij hown ha hb hab => ?_, fun j hj => ?_, hr.lt⟩, fun g hg => ?_⟩
  · rcases hget j oj hj with ⟨rfl, rfl⟩ | ⟨_, h1⟩
    · have h9 : OR w ι j (.cells c n true ancs) := hr.obj j _ ho
      simpa only [OR] using h9
    · exact hr.obj j oj h1
  · rcases hget i oi hi with ⟨rfl, rfl⟩ | ⟨_, h1⟩
    · cases hown
    · rcases hget j oj hj with ⟨rfl, rfl⟩ | ⟨_, h2⟩
      · have := hr.share i j oi _ a b h1 ho hij hown ha hb hab
        cases oi with
        | map es => exact this
        | cells c' n' own' l' => cases own' <;> exact this.elim
      · exact hr.share i j oi oj a b h1 h2 hij hown ha hb hab
  · obtain ⟨h1, h2⟩ := hr.fresh j hj
    have hji : j ≠ id := fun e => by rw [e, ho] at h1; cases h1
    exact ⟨by simp only; rw [Tr.get_set_ne _ _ _ _ hji]; exact h1, h2⟩
  · obtain ⟨j, l, hl, hlg, hown⟩ := hg
    refine ⟨j, l, hl, hlg, ?_⟩
    cases hgj : (h.objs.set (some (.cells c n false ancs)) id).get j with
    | none => simp only at hown; rw [hgj] at hown; cases hown
    | some oj =>
      simp only at hown
      rw [hgj] at hown
      rcases hget j oj hgj with ⟨rfl, rfl⟩ | ⟨_, h1⟩
      · cases hown
      · rw [h1]; exact hown

end Go.Proofs.YtfmlgiafkbakcaaGreatDoor.Ev

namespace Go.Proofs.YtfmlgiafkbakcaaGreatDoor.Ev

/-! ### places -/

theorem pj_ps_same {α : Type} (d : Nat) (f : α → α) (e : P4 α) : (pj d).f α ((ps d).f α f e) = f ((pj d).f α e) := by
  obtain ⟨a, b, c, g⟩ := e
  rcases d with _ | _ | _ | d <;> rfl

theorem pj_ps_ne {α : Type} {d d' : Nat} (hd : d < 4) (hd' : d' < 4) (h : d' ≠ d) (f : α → α) (e : P4 α) : (pj d').f α ((ps d).f α f e) = (pj d').f α e := by
  obtain ⟨a, b, c, g⟩ := e
  rcases d with _ | _ | _ | _ | d <;> rcases d' with _ | _ | _ | _ | d' <;> first | rfl | omega

def getE (t : Nat) (e : E) : AV := (cgetT t).get e

theorem getE_eq (t : Nat) (e : E) : getE t e = (pj (t % 4)).f _ ((pj (t / 4 % 4)).f _ ((pj (t / 16 % 4)).f _ ((pj (t / 64 % 4)).f _ ((pj (t / 256)).f _ e)))) := rfl

theorem set_eq (t : Nat) (v : AV) (e : E) : (cset t).set v e = (ps (t / 256)).f _ ((ps (t / 64 % 4)).f _ ((ps (t / 16 % 4)).f _ ((ps (t / 4 % 4)).f _ ((ps (t % 4)).f _ fun _ => v)))) e := rfl

theorem get_set_same (t : Nat) (v : AV) (e : E) : getE t ((cset t).set v e) = v := by
  rw [getE_eq, set_eq]
  simp only [pj_ps_same]

theorem get_set_ne {t t' : Nat} (ht : t < 1024) (ht' : t' < 1024) (h : t' ≠ t) (v : AV) (e : E) : getE t' ((cset t).set v e) = getE t' e := by
  rw [getE_eq, getE_eq, set_eq]
  by_cases h1 : t' / 256 = t / 256
  · rw [h1, pj_ps_same]
    by_cases h2 : t' / 64 % 4 = t / 64 % 4
    · rw [h2, pj_ps_same]
      by_cases h3 : t' / 16 % 4 = t / 16 % 4
      · rw [h3, pj_ps_same]
        by_cases h4 : t' / 4 % 4 = t / 4 % 4
        · rw [h4, pj_ps_same]
          rw [pj_ps_ne (Nat.mod_lt _ (by omega)) (Nat.mod_lt _ (by omega)) (by omega)]
        · rw [pj_ps_ne (Nat.mod_lt _ (by omega)) (Nat.mod_lt _ (by omega)) h4]
      · rw [pj_ps_ne (Nat.mod_lt _ (by omega)) (Nat.mod_lt _ (by omega)) h3]
    · rw [pj_ps_ne (Nat.mod_lt _ (by omega)) (Nat.mod_lt _ (by omega)) h2]
  · rw [pj_ps_ne (by omega) (by omega) h1]

structure ER (N : Nat) (ι : Io) (e : E) (a : Act) : Prop where
  size : N ≤ a.tmps.size
  defers : a.defers = []
  at_ : ∀ t, t < 1024 → VR ι (getE t e) (a.tmps.getD t undef)

theorem ER.ext {N : Nat} {ι ι' : Io} {e : E} {a : Act} (h : ER N ι e a) (he : Ext ι ι') : ER N ι' e a :=
  ⟨h.size, h.defers, fun t ht => (h.at_ t ht).ext he⟩

theorem ER.put {N : Nat} {ι : Io} {e : E} {a : Act} (h : ER N ι e a) {d : Nat} (hd : d < N) (hd2 : d < 1024) {v : AV} {u : Value} (hv : VR ι v u) : ER N ι ((cset d).set v e) (a.put (some d) u) := by
  refine ⟨by simpa [Act.put] using h.size, h.defers, fun t ht => ?_⟩
  by_cases htd : t = d
  · subst htd
    have : t < a.tmps.size := Nat.lt_of_lt_of_le hd h.size
    rw [get_set_same]
    simpa [Act.put, this] using hv
  · rw [get_set_ne hd2 ht htd]
    simpa [Act.put, Array.getElem?_setIfInBounds_ne (Ne.symm htd)] using h.at_ t ht

theorem ER.putO {N : Nat} {ι : Io} {e : E} {a : Act} (h : ER N ι e a) {d : Option Nat} (hd : okDst N d = true) {v : AV} {u : Value} (hv : VR ι v u) : ER N ι ((csetO d).set v e) (a.put d u) := by
  cases d with
  | none => exact h
  | some d =>
    simp only [okDst, Bool.and_eq_true, Nat.blt_eq] at hd
    exact h.put hd.1 hd.2 hv

/-! ### constants -/

theorem encS_lt : ∀ l : List UInt8, encS l < 256 ^ l.length
  | [] => by simp [encS]
  | b :: l => by
    have h1 := encS_lt l
    have h2 := b.toNat_lt
    simp only [encS, List.length_cons, Nat.pow_succ]
    show b.toNat + 256 * encS l < _
    omega

theorem decS_encS : ∀ l : List UInt8, decS l.length (encS l) = l
  | [] => rfl
  | b :: l => by
    have h2 := b.toNat_lt
    have e1 : (b.toNat + 256 * encS l) % 256 = b.toNat := by omega
    have e2 : (b.toNat + 256 * encS l) / 256 = encS l := by omega
    simp only [encS, List.length_cons, decS]
    show UInt8.ofNat ((b.toNat + 256 * encS l) % 256) :: decS l.length ((b.toNat + 256 * encS l) / 256) = _
    rw [e1, e2, decS_encS l]
    simp

theorem VR.of1 (ι : Io) {v : Value} {a : AV} (h : avOf1 v = some a) : VR ι a v ∧ v.oneCell' = true := by
  unfold avOf1 at h
  split at h <;> first | (cases h; done) | (injection h with h; subst h)
  case h_3 s =>
    refine ⟨⟨?_, encS_lt _⟩, rfl⟩
    unfold strV
    rw [decS_encS]
  case h_9 f =>
    exact ⟨⟨[], [], rfl, rfl, rfl⟩, rfl⟩
  all_goals exact ⟨by simp only [VR], rfl⟩

theorem VR.ofL (ι : Io) : ∀ {l : List Value} {a : AV}, avL l = some a → VRl ι a l ∧ ∀ u ∈ l, u.oneCell' = true
  | [], a, h => by simp only [avL, Option.some.injEq] at h; subst h; exact ⟨by simp [VRl], by simp⟩
  | v :: l, a, h => by
    simp only [avL] at h
    split at h
    case h_2 => cases h
    rename_i x y hx hy
    injection h with h
    subst h
    obtain ⟨h1, h2⟩ := VR.of1 ι hx
    obtain ⟨h3, h4⟩ := VR.ofL ι hy
    refine ⟨by simp only [VRl]; exact ⟨v, l, rfl, h1, h3⟩, fun u hu => ?_⟩
    rcases List.mem_cons.1 hu with rfl | hu
    · exact h2
    · exact h4 u hu

theorem VR.of (ι : Io) {v : Value} {a : AV} (h : avOf v = some a) : VR ι a v := by
  unfold avOf at h
  split at h
  · rename_i cs
    split at h
    case h_2 => cases h
    rename_i x hx
    injection h with h
    subst h
    obtain ⟨h1, h2⟩ := VR.ofL ι hx
    exact ⟨cs.toList, by simp, h1, h2⟩
  · injection h with h
    subst h
    exact ⟨[], rfl, rfl⟩
  · exact (VR.of1 ι h).1

theorem avOf_ne_tup {v : Value} {cs : AV} (h : avOf v = some (.tup cs)) : cs = .nil := by
  unfold avOf at h
  split at h
  · split at h <;> cases h
  · injection h with h; injection h with h; exact h.symm
  · unfold avOf1 at h
    split at h <;> cases h

/-! ### operands -/

theorem ER.eval {N : Nat} {ι : Io} {e : E} {a : Act} (h : ER N ι e a) {x : Operand} (hx : okOp x = true) : VR ι ((cget x).get e) (a.eval x) := by
  cases x with
  | tmp t =>
    simp only [okOp, Nat.blt_eq] at hx
    exact h.at_ t hx
  | const v =>
    simp only [okOp, Option.isSome_iff_exists] at hx
    obtain ⟨b, hb⟩ := hx
    simp only [cget, hb, Act.eval]
    exact VR.of ι hb
  | global g => cases hx
  | func f => exact ⟨[], [], rfl, rfl, rfl⟩

theorem ER.evals {N : Nat} {ι : Io} {e : E} {a : Act} (h : ER N ι e a) : ∀ {l : List Operand}, l.all okOp = true → VRl ι ((cgets l).get e) (l.map a.eval)
  | [], _ => by simp [cgets, VRl]
  | x :: l, hx => by
    simp only [List.all_cons, Bool.and_eq_true] at hx
    have h1 := h.eval hx.1
    have h2 := ER.evals h hx.2
    simp only [cgets, VRl, List.map_cons]
    exact ⟨_, _, rfl, h1, h2⟩

end Go.Proofs.YtfmlgiafkbakcaaGreatDoor.Ev

namespace Go.Proofs.YtfmlgiafkbakcaaGreatDoor.Ev

theorem forceN_eq {ρ : Type} (n : Nat) (K : Nat → ρ) : forceN n K = K n := by cases n <;> rfl

theorem mkI_eq (k : IntKind) (n : Int) : mkI k n = .int k n := by
  cases n <;> simp [mkI, forceN_eq]

theorem neg_eq (m : Nat) : Int.negSucc m = -(m : Int) - 1 := by rw [Int.negSucc_eq]; omega

theorem fits_wrap {k : IntKind} {n : Int} (h : fits k n = true) : k.wrap n = n := by
  have key : ∀ (k : IntKind) (n lo hi : Int), k.min = lo → k.max = hi → lo ≤ n → n ≤ hi → k.wrap n = n := by
    intro k n lo hi h1 h2 h3 h4
    subst h1 h2
    cases k <;> simp only [IntKind.min, IntKind.max, IntKind.wrap, IntKind.bits, IntKind.signed, Bool.true_and, Bool.false_and, Bool.false_eq_true, if_false, if_true, decide_eq_true_eq, Int.reducePow, Int.reduceNeg, Int.reduceSub, Nat.reduceSub, ge_iff_le] at h3 h4 ⊢ <;> first | omega | (split <;> omega)
  unfold fits at h
  split at h <;> first | (cases h; done) | skip
  all_goals (
    rename_i m
    simp only [Nat.blt_eq] at h
    first
    | (rw [neg_eq]; exact key _ _ _ _ rfl rfl (by simp only [IntKind.min, IntKind.bits, IntKind.signed, if_true, Nat.reduceSub, Int.reducePow]; omega) (by simp only [IntKind.max, IntKind.bits, IntKind.signed, if_true, Nat.reduceSub, Int.reducePow]; omega))
    | exact key _ _ _ _ rfl rfl (by simp only [IntKind.min, IntKind.bits, IntKind.signed, if_true, Bool.false_eq_true, if_false, Nat.reduceSub, Int.reducePow, Int.ofNat_eq_natCast]; omega) (by simp only [IntKind.max, IntKind.bits, IntKind.signed, if_true, Bool.false_eq_true, if_false, Nat.reduceSub, Int.reducePow, Int.ofNat_eq_natCast]; omega))

theorem wrapA_eq (k : IntKind) (n : Int) : wrapA k n = k.wrap n := by
  unfold wrapA
  split
  · rename_i h; exact (fits_wrap h).symm
  · rfl

theorem eqI_eq (x y : Int) : eqI x y = (x == y) := by
  apply Bool.eq_iff_iff.2
  rw [beq_iff_eq]
  cases x <;> cases y <;> simp only [eqI, Nat.beq_eq, Bool.false_eq_true, Int.ofNat_eq_natCast, neg_eq] <;> (constructor <;> intro h <;> first | exact h.elim | trivial | omega)

theorem ltI_eq (x y : Int) : ltI x y = decide (x < y) := by
  apply Bool.eq_iff_iff.2
  rw [decide_eq_true_eq]
  cases x <;> cases y <;> simp only [ltI, Nat.blt_eq, Bool.false_eq_true, Int.ofNat_eq_natCast, neg_eq] <;> (constructor <;> intro h <;> first | exact h.elim | trivial | omega)

theorem kindN_inj {k j : IntKind} (h : Nat.beq (kindN k) (kindN j) = true) : k = j := by
  cases k <;> cases j <;> first | rfl | (simp [kindN] at h)

/-! ### an operation is carried out -/

def OpOk (P : Program) (a : Act) (o : Oper) (v : AV) (h : H) (ι : Io) (w : World) (h' : H) : Prop :=
  ∀ (K : Act → World → Prop) (Q : Exit → Act → World → Prop), (∀ ι' u w', VR ι' v u → HR h' ι' w' → Stp h ι w h' ι' w' → K (a.put o.dst u) w') → o.wp P a w K Q

theorem OpOk.value {P : Program} {a : Act} {o : Oper} {v : AV} {h h' : H} {ι ι' : Io} {w w' : World} {u : Value} (hr : (execOp a.eval o).run P w = .ok (.value u) w') (hv : VR ι' v u) (hh : HR h' ι' w') (hs : Stp h ι w h' ι' w') : OpOk P a o v h ι w h' := by
  intro K Q hK
  unfold Oper.wp
  rw [hr]
  exact hK ι' u w' hv hh hs

theorem OpOk.pure {P : Program} {a : Act} {o : Oper} {v : AV} {h : H} {ι : Io} {w : World} {u : Value} (hh : HR h ι w) (hr : (execOp a.eval o).run P w = .ok (.value u) w) (hv : VR ι v u) : OpOk P a o v h ι w h :=
  .value hr hv hh (Stp.refl _ _ _)

/-- an operation that leaves all as it is -/
def PureR (P : Program) (a : Act) (o : Oper) (v : AV) (h : H) (ι : Io) (w : World) (h' : H) : Prop := h' = h ∧ ∃ u, (execOp a.eval o).run P w = .ok (.value u) w ∧ VR ι v u

theorem PureR.ok {P : Program} {a : Act} {o : Oper} {v : AV} {h h' : H} {ι : Io} {w : World} (hp : PureR P a o v h ι w h') (hh : HR h ι w) : OpOk P a o v h ι w h' := by
  obtain ⟨rfl, u, h1, h2⟩ := hp
  exact .pure hh h1 h2

theorem OpOk.skip {P : Program} {a : Act} {o : Oper} {h h' : H} {ι ι' : Io} {w w' : World} (hr : (execOp a.eval o).run P w = .ok .skip w') (hh : HR h' ι' w') (hs : Stp h ι w h' ι' w') : OpOk P a o (.tup .nil) h ι w h' := by
  intro K Q hK
  unfold Oper.wp
  rw [hr]
  exact hK ι' undef w' ⟨[], rfl, rfl⟩ hh hs

/-! ### two numbers -/

theorem intOp_run {P : Program} {op : BinOp} {t : TypeId} {k : IntKind} {x y : Int} {v : AV} (h : intOp op k x y = some v) (hop : op ≠ .shl) (hop2 : op ≠ .shr) : ∃ u, VR (fun _ => none) v u ∧ ∀ w, (binOp op t (.int k x) (.int k y)).run P w = .ok u w := by
  cases op <;> simp only [intOp, mkI_eq, wrapA_eq, eqI_eq, ltI_eq, Option.some.injEq] at h <;> first | exact absurd rfl hop | exact absurd rfl hop2 | skip
  case add => subst h; exact ⟨_, rfl, fun w => by simp [binOp, Op.intArith] <;> try rfl⟩
  case sub => subst h; exact ⟨_, rfl, fun w => by simp [binOp, Op.intArith] <;> try rfl⟩
  case mul => subst h; exact ⟨_, rfl, fun w => by simp [binOp, Op.intArith] <;> try rfl⟩
  case eql => subst h; exact ⟨_, rfl, fun w => by simp [binOp, Op.intCmp]⟩
  case neq => subst h; exact ⟨_, rfl, fun w => by simp [binOp, Op.intCmp, bne]⟩
  case lss => subst h; exact ⟨_, rfl, fun w => by simp [binOp, Op.intCmp]⟩
  case leq => subst h; exact ⟨_, rfl, fun w => by simp [binOp, Op.intCmp]; rw [← decide_not]; exact decide_eq_decide.2 (by omega)⟩
  case gtr => subst h; exact ⟨_, rfl, fun w => by simp [binOp, Op.intCmp]⟩
  case geq => subst h; exact ⟨_, rfl, fun w => by simp [binOp, Op.intCmp]; rw [← decide_not]; exact decide_eq_decide.2 (by omega)⟩
  case quo =>
    split at h
    · cases h
    · rename_i h0
      injection h with h
      subst h
      have h1 : y ≠ 0 := by simpa using h0
      exact ⟨_, rfl, fun w => by simp [binOp, Op.intDiv, h1]⟩
  case rem =>
    split at h
    · cases h
    · rename_i h0
      injection h with h
      subst h
      have h1 : y ≠ 0 := by simpa using h0
      exact ⟨_, rfl, fun w => by simp [binOp, Op.intDiv, h1]⟩
  case and => simp only [bitsOp] at h; injection h with h; subst h; exact ⟨_, rfl, fun w => by simp [binOp, Op.intBits]⟩
  case or => simp only [bitsOp] at h; injection h with h; subst h; exact ⟨_, rfl, fun w => by simp [binOp, Op.intBits]⟩
  case xor => simp only [bitsOp] at h; injection h with h; subst h; exact ⟨_, rfl, fun w => by simp [binOp, Op.intBits]⟩
  case andNot => simp only [bitsOp] at h; injection h with h; subst h; exact ⟨_, rfl, fun w => by simp [binOp, Op.intBits]⟩

theorem shift_run {P : Program} {op : BinOp} {t : TypeId} {k j : IntKind} {x y : Int} {v : AV} (h : intOp op k x y = some v) (hop : op = .shl ∨ op = .shr) : ∃ u, VR (fun _ => none) v u ∧ ∀ w, (binOp op t (.int k x) (.int j y)).run P w = .ok u w := by
  rcases hop with rfl | rfl <;> cases y <;> simp only [intOp, mkI_eq, wrapA_eq] at h <;> first | (cases h; done) | (injection h with h; subst h)
  · exact ⟨_, rfl, fun w => by simp [binOp, Op.shift]; intro h; omega⟩
  · exact ⟨_, rfl, fun w => by simp [binOp, Op.shift]; intro h; omega⟩

theorem VR.none {ι : Io} {v : AV} {u : Value} (h : VR (fun _ => Option.none) v u) : VR ι v u := h.ext (fun _ _ e => by cases e)

/-! ### texts -/

theorem decS_inj : ∀ (l a b : Nat), a < 256 ^ l → b < 256 ^ l → decS l a = decS l b → a = b
  | 0, a, b, ha, hb, _ => by simp at ha hb; omega
  | l + 1, a, b, ha, hb, h => by
    simp only [decS, List.cons.injEq] at h
    rw [Nat.pow_succ] at ha hb
    have h2 := decS_inj l (a / 256) (b / 256) (by omega) (by omega) h.2
    have h1 := congrArg UInt8.toNat h.1
    simp at h1
    omega

theorem decS_length : ∀ (l a : Nat), (decS l a).length = l
  | 0, _ => rfl
  | l + 1, a => by simp [decS, decS_length l]

theorem strV_eq {l a m b : Nat} (ha : a < 256 ^ l) (hb : b < 256 ^ m) : (strV l a = strV m b) ↔ (l = m ∧ a = b) := by
  constructor
  · intro h
    have h1 : decS l a = decS m b := by
      have := congrArg (fun s => s.data.toList) h
      simpa [strV] using this
    have hl : l = m := by have := congrArg List.length h1; simpa [decS_length] using this
    subst hl
    exact ⟨rfl, decS_inj l a b ha hb h1⟩
  · rintro ⟨rfl, rfl⟩; rfl

theorem decS_add : ∀ (l a m b : Nat), a < 256 ^ l → decS (l + m) (a + b * 256 ^ l) = decS l a ++ decS m b
  | 0, a, m, b, ha => by simp at ha; subst ha; simp [decS]
  | l + 1, a, m, b, ha => by
    rw [Nat.pow_succ] at ha
    rw [show l + 1 + m = (l + m) + 1 by omega]
    have e0 : b * 256 ^ (l + 1) = (b * 256 ^ l) * 256 := by rw [Nat.pow_succ, Nat.mul_assoc]
    have e1 : (a + b * 256 ^ (l + 1)) % 256 = a % 256 := by rw [e0]; omega
    have e2 : (a + b * 256 ^ (l + 1)) / 256 = a / 256 + b * 256 ^ l := by rw [e0]; omega
    simp only [decS, e1, e2, List.cons_append]
    rw [decS_add l (a / 256) m b (by omega)]

theorem decS_drop : ∀ (l k a : Nat), k ≤ l → (decS l a).drop k = decS (l - k) (a / 256 ^ k)
  | l, 0, a, _ => by simp
  | 0, k + 1, a, h => absurd h (by omega)
  | l + 1, k + 1, a, h => by
    simp only [decS, List.drop_succ_cons]
    rw [decS_drop l k (a / 256) (by omega), Nat.div_div_eq_div_mul, Nat.pow_succ, Nat.mul_comm 256, show l + 1 - (k + 1) = l - k by omega]

theorem decS_take : ∀ (l k a : Nat), k ≤ l → (decS l a).take k = decS k (a % 256 ^ k)
  | l, 0, a, _ => by simp [decS]
  | 0, k + 1, a, h => absurd h (by omega)
  | l + 1, k + 1, a, h => by
    have e1 : a % 256 ^ (k + 1) % 256 = a % 256 := Nat.mod_mod_of_dvd _ ⟨256 ^ k, by rw [Nat.pow_succ, Nat.mul_comm]⟩
    have e2 : a % 256 ^ (k + 1) / 256 = a / 256 % 256 ^ k := by
      rw [Nat.pow_succ, Nat.mul_comm, Nat.mod_mul_right_div_self]
    simp only [decS, List.take_succ_cons, e1, e2]
    rw [decS_take l k (a / 256) (by omega)]

theorem decS_get : ∀ (l k a : Nat), k < l → (decS l a)[k]? = some (UInt8.ofNat (a / 256 ^ k % 256))
  | 0, k, a, h => absurd h (by omega)
  | l + 1, 0, a, _ => by simp [decS]
  | l + 1, k + 1, a, h => by
    simp only [decS, List.getElem?_cons_succ]
    rw [decS_get l k (a / 256) (by omega), Nat.div_div_eq_div_mul, Nat.pow_succ, Nat.mul_comm 256]

end Go.Proofs.YtfmlgiafkbakcaaGreatDoor.Ev

namespace Go.Proofs.YtfmlgiafkbakcaaGreatDoor.Ev

section
variable {P : Program} {a : Act} {o : Oper} {ι : Io} {w : World} {h h' : H} {v : AV}

/-- a new block of cells -/
theorem newA_ok (hh : HR h ι w) {cs : AV} {vs : List Value} (hv : VRl ι cs vs) (h1 : ∀ u ∈ vs, u.oneCell' = true) {t : TypeId} (hrun : (execOp a.eval o).run P w = .ok (.value (.pointer (some ⟨w.heap.size, 0, none⟩))) (w.alloc (.cells vs.toArray t)))
    (hr : newA (Tr.nil.putL 0 cs) cs.length h = .ok v h') : OpOk P a o v h ι w h' := by
  obtain ⟨os, k⟩ := h
  simp only [newA] at hr
  injection hr with hv' hh'
  subst hv' hh'
  have hlen := VRl.length hv
  obtain ⟨h2, h3⟩ := hh.newCells (w' := w.alloc (.cells vs.toArray t)) (Tr.nil.putL 0 cs) cs.length vs.toArray t rfl rfl rfl rfl (by simp [hlen]) (fun i a hi ha => by
    obtain ⟨u, h4, h5⟩ := cells_put hv h1 i a hi ha
    exact ⟨u, by simpa using h4, h5⟩)
  refine .value hrun ?_ h2 h3
  exact ⟨_, upd_same, by simp⟩

theorem run_newRow' (t : TypeId) (cs : Array Value) (w : World) : (newRow t cs).run P w = .ok ⟨w.heap.size, 0, none⟩ (w.alloc (.cells cs t)) := rfl

theorem box_ok (hh : HR h ι w) {t : TypeId} {x : Operand} (ho : o.op = .box t x) {xa : AV} (hx : VR ι xa (a.eval x)) (hr : boxA xa h = .ok v h') : OpOk P a o v h ι w h' := by
  unfold boxA at hr
  split at hr
  case h_2 => cases hr
  rename_i cs hc
  obtain ⟨h1, h2⟩ := hx.cells hc
  refine newA_ok hh h1 h2 (t := t) ?_ hr
  unfold execOp
  rw [ho]
  simp [Instr.box, newVar, run_newRow']

theorem zeroT_info {t : TypeId} {z : AV} (h : zeroT P t = some z) : ∃ i v, P.info? t = some i ∧ i.zero = some v ∧ avOf v = some z := by
  unfold zeroT at h
  split at h
  case h_2 => cases h
  rename_i i hi
  split at h
  case h_2 => cases h
  rename_i v hv
  exact ⟨i, v, hi, hv, h⟩

theorem alloc_ok (hh : HR h ι w) {t : TypeId} (ho : o.op = .alloc t) {z : AV} (hz : zeroT P t = some z) (hr : boxA z h = .ok v h') : OpOk P a o v h ι w h' := by
  obtain ⟨i, u, hi, hu, hav⟩ := zeroT_info hz
  unfold boxA at hr
  split at hr
  case h_2 => cases hr
  rename_i cs hc
  obtain ⟨h1, h2⟩ := (VR.of ι hav).cells hc
  refine newA_ok hh h1 h2 (t := t) ?_ hr
  unfold execOp
  rw [ho]
  simp [Instr.alloc, zeroValue, typeInfo, hi, hu, newVar, run_newRow']

/-! ### loads -/

theorem rowT_cases {t : TypeId} {r : Option Nat} (h : rowT P t = some r) : (∃ k i d, r = some k ∧ P.underlying t = some d ∧ d.isRow = true ∧ P.info? t = some i ∧ i.size = k) ∨ (r = none ∧ ∃ d, P.underlying t = some d ∧ d.isRow = false) := by
  unfold rowT at h
  have hs : ∀ k, szT P t = some k → ∃ i, P.info? t = some i ∧ i.size = k := fun k hk => by
    unfold szT at hk
    split at hk
    · rename_i i hi; injection hk with hk; exact ⟨i, hi, hk⟩
    · cases hk
  split at h
  · rename_i fs hd
    split at h
    case h_2 => cases h
    rename_i k hk
    injection h with h
    obtain ⟨i, h1, h2⟩ := hs k hk
    exact .inl ⟨k, i, _, h.symm, hd, rfl, h1, h2⟩
  · rename_i n e hd
    split at h
    case h_2 => cases h
    rename_i k hk
    injection h with h
    obtain ⟨i, h1, h2⟩ := hs k hk
    exact .inl ⟨k, i, _, h.symm, hd, rfl, h1, h2⟩
  · rename_i d hn1 hn2 hd
    injection h with h
    refine .inr ⟨h.symm, d, hd, ?_⟩
    cases d <;> first | rfl | (exact absurd rfl (hn1 _)) | (exact absurd rfl (hn2 _ _)) | simp_all
  · cases h

theorem run_isAgg {t : TypeId} {d : TypeDesc} (hd : P.underlying t = some d) : (isAgg t).run P w = .ok d.isRow w := by
  unfold isAgg
  rw [Sem.run_bind, run_underlying hd w]
  cases d <;> rfl

/-- cells read in our memory lie in the world -/
theorem getL_range {c : Tr AV} {n base : Nat} {arr : Array Value} (hc : ∀ i a, i < n → c.get i = some a → ∃ v, arr[base + i]? = some v ∧ VR ι a v ∧ v.oneCell' = true) :
    ∀ (k off : Nat) (l : AV), off + k ≤ n → c.getL off k = some l → ∃ vs : List Value, vs.length = k ∧ VRl ι l vs ∧ (∀ u ∈ vs, u.oneCell' = true) ∧ ∀ j u, vs[j]? = some u → arr[base + off + j]? = some u
  | 0, off, l, _, hl => by
    simp only [Tr.getL, Option.some.injEq] at hl
    subst hl
    exact ⟨[], rfl, by simp [VRl], by simp, by simp⟩
  | k + 1, off, l, hle, hl => by
    simp only [Tr.getL] at hl
    split at hl
    case h_2 => cases hl
    rename_i x hx
    split at hl
    case h_2 => cases hl
    rename_i r hr
    injection hl with hl
    subst hl
    obtain ⟨v, h1, h2, h3⟩ := hc off x (by omega) hx
    obtain ⟨vs, h4, h5, h6, h7⟩ := getL_range hc k (Nat.succ off) r (by omega) hr
    refine ⟨v :: vs, by simp [h4], by simp only [VRl]; exact ⟨v, vs, rfl, h2, h5⟩, fun u hu => ?_, fun j u hj => ?_⟩
    · rcases List.mem_cons.1 hu with rfl | hu
      · exact h3
      · exact h6 u hu
    · cases j with
      | zero => simp at hj; subst hj; simpa using h1
      | succ j =>
        have := h7 j u (by simpa using hj)
        rw [show base + off + (j + 1) = base + Nat.succ off + j by omega]
        exact this

theorem range_of {g base off : Nat} {arr : Array Value} {t : TypeId} {fr : Nat × Nat} {vs : List Value} (hg : w.heap[g]? = some (.cells arr t fr)) (hv : ∀ j u, vs[j]? = some u → arr[base + off + j]? = some u) : w.rangeAt g (base + off) vs := by
  intro j u hu
  rw [cell_of_row w g _ arr t fr hg]
  exact hv j u hu

theorem load_val (hh : HR h ι w) {row : Option Nat} {xa : AV} {xv : Value} (hx : VR ι xa xv) {t : TypeId} (hrow : rowT P t = some row) (hr : loadA row xa h = .ok v h') : h' = h ∧ ∃ ad u, xv = .pointer (some ad) ∧ (loadVar t ad).run P w = .ok u w ∧ VR ι v u := by
  unfold loadA at hr
  split at hr
  case h_2 => cases hr
  rename_i id off
  split at hr
  case h_2 => cases hr
  rename_i c n own ancs hget
  obtain ⟨l, arr, ty, hl, hg, hsz, hn, hc⟩ := hh.obj id _ hget
  simp only [VR] at hx
  obtain ⟨l', hl', rfl⟩ := hx
  have : l' = l := by rw [hl] at hl'; injection hl' with hl'; exact hl'.symm
  subst this
  rcases rowT_cases hrow with ⟨k, i, d, rfl, hd, hrw, hi, hs⟩ | ⟨rfl, d, hd, hrw⟩
  · simp only at hr
    split at hr
    case h_2 => cases hr
    rename_i hle
    split at hr
    case h_2 => cases hr
    rename_i lst hlst
    injection hr with hv hh'
    subst hv hh'
    obtain ⟨vs, h1, h2, h3, h4⟩ := getL_range hc k off lst (by simpa using hle) hlst
    refine ⟨rfl, _, _, rfl, run_loadVar_mid w l'.g (l'.base + off) t vs d (range_of hg h4) hd hrw (by rw [hi, h1, ← hs]; rfl), ⟨vs, rfl, h2, h3⟩⟩
  · simp only at hr
    split at hr
    case h_2 => cases hr
    rename_i hlt
    split at hr
    case h_2 => cases hr
    rename_i x hx
    injection hr with hv hh'
    subst hv hh'
    obtain ⟨u, h1, h2, h3⟩ := hc off x (by simpa using hlt) hx
    refine ⟨rfl, _, u, rfl, ?_, h2⟩
    unfold loadVar
    have hcell : w.cell? ⟨l'.g, l'.base + off, none⟩ = some u := by rw [cell_of_row w l'.g _ arr ty (0, 0) hg]; exact h1
    simp [run_isAgg hd, hrw, load, Sem.run, hcell]

theorem load_ok (hh : HR h ι w) {t : TypeId} {x : Operand} (ho : o.op = .load t x) {row : Option Nat} (hrow : rowT P t = some row) {xa : AV} (hx : VR ι xa (a.eval x)) (hr : loadA row xa h = .ok v h') : PureR P a o v h ι w h' := by
  obtain ⟨rfl, ad, u, hxv, hrun, hv⟩ := load_val hh hx hrow hr
  refine ⟨rfl, _, ?_, hv⟩
  unfold execOp
  rw [ho]
  simp [hxv, Instr.loadAt, Instr.sureAddr, hrun]

/-! ### stores -/

theorem szT_info {t : TypeId} {k : Nat} (h : szT P t = some k) : ∃ i, P.info? t = some i ∧ i.size = k := by
  unfold szT at h
  split at h
  · rename_i i hi; injection h with h; exact ⟨i, hi, h⟩
  · cases h

/-- what is written in our memory is written in the world -/
theorem put_run (hh : HR h ι w) {id off : Nat} {cs : AV} (hp : putA id off cs h = some h') {vs : List Value} (hv : VRl ι cs vs) (hv1 : ∀ u ∈ vs, u.oneCell' = true) :
    ∃ l w', ι id = some l ∧ (storeCells ⟨l.g, l.base + off, none⟩ vs 0).run P w = .ok () w' ∧ HR h' ι w' ∧ Stp h ι w h' ι w' := by
  cases ho : h.objs.get id with
  | none => simp [putA, ho] at hp
  | some ob =>
    cases ob with
    | map es => simp [putA, ho] at hp
    | cells c n own ancs =>
      obtain ⟨l, arr, t, hl, hg, hsz, hn, _⟩ := hh.obj id _ ho
      have hle : off + cs.length ≤ n := by
        have hp2 := hp
        simp only [putA, ho] at hp2
        split at hp2
        · rename_i h1
          simp only [Bool.and_eq_true, Nat.ble_eq] at h1
          exact h1.2
        · cases hp2
      have hlen := VRl.length hv
      have hst := run_storeCells_at P l.g (l.base + off) t vs 0 arr w hg (by omega) hv1
      simp only [Nat.add_zero] at hst
      obtain ⟨h1, h2⟩ := hh.put id off cs hp l hl vs hv hv1 arr t hg rfl
      exact ⟨l, _, hl, hst, h1, h2⟩

theorem store_ok (hh : HR h ι w) {t : TypeId} {x y : Operand} (ho : o.op = .store t x y) {z : Nat} (hz : szT P t = some z) {xa ya : AV} (hx : VR ι xa (a.eval x)) (hy : VR ι ya (a.eval y)) (hr : storeA z xa ya h = .ok v h') : OpOk P a o v h ι w h' := by
  obtain ⟨i, hi, hs⟩ := szT_info hz
  unfold storeA at hr
  split at hr
  case h_2 => cases hr
  rename_i id off
  split at hr
  case h_2 => cases hr
  rename_i cs hc
  split at hr
  case h_2 => cases hr
  rename_i hbeq
  split at hr
  case h_2 => cases hr
  rename_i h2 hp
  injection hr with e1 e2
  subst e1 e2
  obtain ⟨hv, hv1⟩ := hy.cells hc
  obtain ⟨l, w', hl, hrun, h3, h4⟩ := put_run (P := P) hh hp hv hv1
  simp only [VR] at hx
  obtain ⟨l', hl', hxv⟩ := hx
  have : l' = l := by rw [hl] at hl'; injection hl' with hl'; exact hl'.symm
  subst this
  have hsz : (a.eval y).cells.size = i.size := by
    have := VRl.length hv
    simp only [Nat.beq_eq] at hbeq
    simp only [Array.length_toList] at this
    omega
  refine .skip ?_ h3 h4
  unfold execOp
  rw [ho]
  simp [hxv, Instr.storeAt, Instr.sureAddr, storeVar, sizeOf, typeInfo, hi, hsz, hrun]

end
end Go.Proofs.YtfmlgiafkbakcaaGreatDoor.Ev

namespace Go.Proofs.YtfmlgiafkbakcaaGreatDoor.Ev

theorem strV_size (l n : Nat) : (strV l n).size = l := by
  show (decS l n).toArray.size = l
  simp [decS_length]

section
variable {P : Program} {a : Act} {o : Oper} {ι : Io} {w : World} {h h' : H} {v : AV}

theorem elemT_spec {t e : TypeId} (h : elemT P t = some e) : P.underlying t = some (.slice e) := by
  unfold elemT at h
  split at h
  · rename_i e' he; injection h with h; subst h; exact he
  · cases h

theorem move_ok (_hh : HR h ι w) {x : Operand} (ho : o.op = .move x ∨ o.op = .assign x) {xa : AV} (hx : VR ι xa (a.eval x)) : PureR P a o xa h ι w h := by
  refine ⟨rfl, (a.eval x), ?_, hx⟩
  unfold execOp
  rcases ho with ho | ho <;> rw [ho] <;> rfl

theorem pick_ok (_hh : HR h ι w) {c x y : Operand} (ho : o.op = .pick c x y) {ca xa ya : AV} (hc : VR ι ca (a.eval c)) (hx : VR ι xa (a.eval x)) (hy : VR ι ya (a.eval y)) (hr : pickA ca xa ya h = .ok v h') : PureR P a o v h ι w h' := by
  unfold pickA at hr
  split at hr
  case h_3 => cases hr
  all_goals (
    injection hr with e1 e2
    subst e1 e2
    simp only [VR] at hc
    first
    | (refine ⟨rfl, (a.eval x), ?_, hx⟩
       unfold execOp
       rw [ho]
       simp [hc, asBool]
       done)
    | (refine ⟨rfl, (a.eval y), ?_, hy⟩
       unfold execOp
       rw [ho]
       simp [hc, asBool]
       done))

theorem nilCheck_ok (_hh : HR h ι w) {x : Operand} (ho : o.op = .nilCheck x) {xa : AV} (hx : VR ι xa (a.eval x)) (hr : nilCheckA xa h = .ok v h') : PureR P a o v h ι w h' := by
  unfold nilCheckA at hr
  split at hr
  case h_3 => cases hr
  all_goals (
    injection hr with e1 e2
    subst e1 e2
    refine ⟨rfl, (a.eval x), ?_, hx⟩
    unfold execOp
    rw [ho]
    simp only [VR] at hx)
  · obtain ⟨l, _, hx⟩ := hx
    simp [hx]
  · obtain ⟨p, q, hx, _⟩ := hx
    simp [hx]

theorem fieldT_spec {t : TypeId} {i : Nat} {f : Field} (h : fieldT P t i = some f) : ∃ fs, P.underlying t = some (.struct fs) ∧ fs[i]? = some f := by
  unfold fieldT at h
  split at h
  · rename_i fs hfs; exact ⟨fs, hfs, by simpa using h⟩
  · cases h

theorem fieldAddr_ok (_hh : HR h ι w) {t : TypeId} {x : Operand} {i : Nat} (ho : o.op = .fieldAddr t x i) {f : Field} (hf : fieldT P t i = some f) {z : Nat} (hz : szT P f.type = some (z + 1)) {xa : AV} (hx : VR ι xa (a.eval x)) (hr : fieldAddrA f.offset xa h = .ok v h') : PureR P a o v h ι w h' := by
  unfold fieldAddrA at hr
  split at hr
  case h_2 => cases hr
  rename_i id off
  rw [forceN_eq] at hr
  injection hr with e1 e2
  subst e1 e2
  simp only [VR] at hx
  obtain ⟨l, hl, hx⟩ := hx
  obtain ⟨fs, hfs, hfi⟩ := fieldT_spec hf
  obtain ⟨inf, hi, hs⟩ := szT_info hz
  refine ⟨rfl, (.pointer (some ⟨l.g, l.base + (off + f.offset), none⟩)), ?_, ⟨l, hl, rfl⟩⟩
  unfold execOp
  rw [ho]
  simp [hx, Instr.fieldAt, run_underlying hfs, hfi, Instr.sureAddr, fieldPlace, sizeOf, typeInfo, hi, hs, Addr.add_mid, Nat.add_assoc]

theorem indexAddr_ok (_hh : HR h ι w) {t : TypeId} {x i : Operand} (ho : o.op = .indexAddr t x i) {el : TypeId} (he : elemT P t = some el) {z : Nat} (hz : szT P el = some z) {xa ia : AV} (hx : VR ι xa (a.eval x)) (hia : VR ι ia (a.eval i)) (hr : indexAddrA z xa ia h = .ok v h') : PureR P a o v h ι w h' := by
  unfold indexAddrA at hr
  split at hr
  case h_2 => cases hr
  rename_i id off len z' ex k n
  split at hr
  case h_2 => cases hr
  rename_i m
  split at hr
  case h_2 => cases hr
  rename_i hlt
  rw [forceN_eq] at hr
  injection hr with e1 e2
  subst e1 e2
  simp only [VR] at hx hia
  obtain ⟨l, ad, cap, hl, hx, hc1, hc2, hc3, hc4⟩ := hx
  have hlt : m < len := by simpa using hlt
  have had := hc3 (by omega)
  subst had
  obtain ⟨inf, hi, hs⟩ := szT_info hz
  refine ⟨rfl, (.pointer (some ⟨l.g, l.base + (off + m * z), none⟩)), ?_, ⟨l, hl, rfl⟩⟩
  unfold execOp
  rw [ho]
  simp [hx, hia, Instr.indexAt, asIntOf, run_underlying (elemT_spec he), hlt, sizeOf, typeInfo, hi, hs, Addr.add_mid, Nat.add_assoc]

theorem extract_ok (_hh : HR h ι w) {x : Operand} {i : Nat} (ho : o.op = .extract x i) {xa : AV} (hx : VR ι xa (a.eval x)) (hr : extractA i xa h = .ok v h') : PureR P a o v h ι w h' := by
  unfold extractA at hr
  split at hr
  case h_2 => cases hr
  rename_i l
  split at hr
  case h_2 => cases hr
  rename_i y hy
  injection hr with e1 e2
  subst e1 e2
  simp only [VR] at hx
  obtain ⟨vs, hx, hl⟩ := hx
  obtain ⟨u, h1, h2⟩ := VRl.nth i hl hy
  refine ⟨rfl, (u), ?_, h2⟩
  unfold execOp
  rw [ho]
  simp [hx, Instr.extract, h1]

theorem field_ok (_hh : HR h ι w) {t : TypeId} {x : Operand} {i : Nat} (ho : o.op = .field t x i) {f : Field} (hf : fieldT P t i = some f) {row : Option Nat} (hrow : rowT P f.type = some row) {xa : AV} (hx : VR ι xa (a.eval x)) (hr : fieldA f.offset row xa h = .ok v h') : PureR P a o v h ι w h' := by
  unfold fieldA at hr
  split at hr
  case h_2 => cases hr
  rename_i cs
  obtain ⟨fs, hfs, hfi⟩ := fieldT_spec hf
  simp only [VR] at hx
  obtain ⟨vs, hx, hl, h1⟩ := hx
  rcases rowT_cases hrow with ⟨k, inf, d, rfl, hd, hrw, hi, hs⟩ | ⟨rfl, d, hd, hrw⟩
  · simp only at hr
    injection hr with e1 e2
    subst e1 e2
    refine ⟨rfl, (.agg ((vs.drop f.offset).take k).toArray), ?_, ⟨_, rfl, VRl.take k (VRl.drop _ hl), fun u hu => h1 u (List.mem_of_mem_drop (List.mem_of_mem_take hu))⟩⟩
    unfold execOp
    rw [ho]
    simp [hx, Instr.field, run_underlying hfs, hfi, asAgg, part, run_isAgg hd, hrw, sizeOf, typeInfo, hi, hs]
  · simp only at hr
    split at hr
    case h_2 => cases hr
    rename_i y hy
    injection hr with e1 e2
    subst e1 e2
    obtain ⟨u, h2, h3⟩ := VRl.nth f.offset hl hy
    refine ⟨rfl, (u), ?_, h3⟩
    unfold execOp
    rw [ho]
    simp [hx, Instr.field, run_underlying hfs, hfi, asAgg, part, run_isAgg hd, hrw, h2]

theorem indexStr_ok (_hh : HR h ι w) {t : TypeId} {x i : Operand} (ho : o.op = .index t x i) (ht : P.underlying t = some .string) {xa ia : AV} (hx : VR ι xa (a.eval x)) (hia : VR ι ia (a.eval i)) (hr : indexStrA xa ia h = .ok v h') : PureR P a o v h ι w h' := by
  unfold indexStrA at hr
  split at hr
  case h_2 => cases hr
  rename_i len s k n
  split at hr
  case h_2 => cases hr
  rename_i m
  split at hr
  case h_2 => cases hr
  rename_i hlt
  rw [forceN_eq] at hr
  injection hr with e1 e2
  subst e1 e2
  simp only [VR] at hx hia
  obtain ⟨hx, _⟩ := hx
  have hlt : m < len := by simpa using hlt
  refine ⟨rfl, (.int .u8 ((s / 256 ^ m % 256 : Nat) : Int)), ?_, rfl⟩
  unfold execOp
  rw [ho]
  have hget : (strV len s)[m]? = some (UInt8.ofNat (s / 256 ^ m % 256)) := by
    have h1 := decS_get len m s hlt
    have h2 : m < (strV len s).size := by
      show m < (decS len s).toArray.size
      simpa [decS_length] using hlt
    rw [getElem?_pos (strV len s) m h2]
    have h3 : (strV len s)[m] = (decS len s)[m]'(by rw [decS_length]; exact hlt) := rfl
    rw [h3, ← h1, List.getElem?_eq_getElem]
  simp [hx, hia, Instr.index, asIntOf, run_underlying ht, hget]

theorem convert_ok (_hh : HR h ι w) {s t : TypeId} {x : Operand} (ho : o.op = .convert s t x) {k : IntKind} (ht : P.underlying t = some (.int k)) {ds : TypeDesc} (hs : P.underlying s = some ds) {xa : AV} (hx : VR ι xa (a.eval x)) (hr : convA k xa h = .ok v h') : PureR P a o v h ι w h' := by
  unfold convA at hr
  split at hr
  case h_2 => cases hr
  rename_i j n
  rw [mkI_eq, wrapA_eq] at hr
  injection hr with e1 e2
  subst e1 e2
  simp only [VR] at hx
  refine ⟨rfl, (.int k (k.wrap n)), ?_, rfl⟩
  unfold execOp
  rw [ho]
  simp [hx, convert, run_underlying ht, run_underlying hs, Conv.intToInt]

theorem unOp_ok (_hh : HR h ι w) {op : UnOp} {t : TypeId} {x : Operand} (ho : o.op = .unOp op t x) {xa : AV} (hx : VR ι xa (a.eval x)) (hr : unA op xa h = .ok v h') : PureR P a o v h ι w h' := by
  unfold unA at hr
  split at hr
  case h_4 => cases hr
  · injection hr with e1 e2
    subst e1 e2
    simp only [VR] at hx
    refine ⟨rfl, (.bool (!_)), ?_, rfl⟩
    unfold execOp
    rw [ho]
    simp [hx, Op.unary]
  · rw [mkI_eq, wrapA_eq] at hr
    injection hr with e1 e2
    subst e1 e2
    simp only [VR] at hx
    refine ⟨rfl, (.int _ _), ?_, rfl⟩
    unfold execOp
    rw [ho]
    simp [hx, Op.unary, Op.intArith]
    rfl
  · split at hr
    case h_2 => cases hr
    rename_i m hb
    rw [mkI_eq] at hr
    injection hr with e1 e2
    subst e1 e2
    simp only [VR] at hx
    simp only [bitsOp] at hb
    injection hb with hb
    subst hb
    refine ⟨rfl, (.int _ _), ?_, rfl⟩
    unfold execOp
    rw [ho]
    simp [hx, Op.unary, Op.intBits]

theorem makeFunc_ok (_hh : HR h ι w) {f : FuncId} {xs ys : Array Operand} (ho : o.op = .makeFunc (.func f) xs ys) {xa ya : AV} (hx : VRl ι xa (xs.toList.map a.eval)) (hy : VRl ι ya (ys.toList.map a.eval)) : PureR P a o (.fn f xa ya) h ι w h := by
  refine ⟨rfl, (.func (.func f) (xs.map a.eval) (ys.map a.eval)), ?_, ⟨_, _, ?_, hx, hy⟩⟩
  · unfold execOp
    rw [ho]
    rfl
  · rw [← List.map_toArray, ← List.map_toArray]

theorem max_ok (_hh : HR h ι w) {x y : Operand} {c : Call} (ho : o.op = .call c) (hc : c.callee = .builtin .max) (hargs : c.args.toList = [x, y]) {xa ya : AV} (hx : VR ι xa (a.eval x)) (hy : VR ι ya (a.eval y)) (hr : maxA xa ya h = .ok v h') : PureR P a o v h ι w h' := by
  unfold maxA at hr
  split at hr
  case h_2 => cases hr
  rename_i k p j q
  split at hr
  case h_2 => cases hr
  rename_i hk
  have := kindN_inj hk
  subst this
  injection hr with e1 e2
  subst e1 e2
  simp only [VR] at hx hy
  have hm : c.args.map a.eval = #[.int k p, .int k q] := by
    apply Array.ext'
    simp [hargs, hx, hy]
  rw [ltI_eq]
  refine ⟨rfl, (.int k (match decide (p < q) with | true => q | false => p)), ?_, rfl⟩
  unfold execOp
  rw [ho]
  simp only [resolve, hc, invoke, builtin, hm, Builtin.max_, List.foldlM, Builtin.max2, Sem.run_bind, Sem.run_pure, Result.andThen_ok]
  by_cases hpq : p < q <;> simp [hpq]

theorem len_ok (_hh : HR h ι w) {x : Operand} {c : Call} (ho : o.op = .call c) (hc : c.callee = .builtin .len) (hargs : c.args.toList = [x]) {t : TypeId} (hty : c.argTypes.toList = [t]) {s : Bool} (ht : (s = true ∧ P.underlying t = some .string) ∨ (s = false ∧ ∃ e, P.underlying t = some (.slice e))) {xa : AV} (hx : VR ι xa (a.eval x)) (hr : lenO s xa h = .ok v h') : PureR P a o v h ι w h' := by
  have hm : c.args.map a.eval = #[a.eval x] := by
    apply Array.ext'
    simp [hargs]
  have hm2 : c.argTypes = #[t] := by
    apply Array.ext'
    simp [hty]
  unfold lenO at hr
  split at hr
  case h_5 => cases hr
  all_goals (
    injection hr with e1 e2
    subst e1 e2
    simp only [VR] at hx
    rcases ht with ⟨h1, h2⟩ | ⟨h1, e, h2⟩ <;> first | (cases h1; done) | skip)
  · obtain ⟨hx, _⟩ := hx
    refine ⟨rfl, (goInt _), ?_, rfl⟩
    unfold execOp
    rw [ho]
    simp [resolve, hc, invoke, builtin, hm, hm2, Builtin.len_, run_underlying h2, hx, strV]
    exact congrArg (fun m : Nat => goInt m) (strV_size _ _)
  · refine ⟨rfl, (goInt _), ?_, rfl⟩
    unfold execOp
    rw [ho]
    simp [resolve, hc, invoke, builtin, hm, hm2, Builtin.len_, run_underlying h2, hx]
  · obtain ⟨l, ad, cap, hl, hx, _⟩ := hx
    refine ⟨rfl, (goInt _), ?_, rfl⟩
    unfold execOp
    rw [ho]
    simp [resolve, hc, invoke, builtin, hm, hm2, Builtin.len_, run_underlying h2, hx]
  · obtain ⟨ad, cap, hx⟩ := hx
    refine ⟨rfl, (goInt _), ?_, rfl⟩
    unfold execOp
    rw [ho]
    simp [resolve, hc, invoke, builtin, hm, hm2, Builtin.len_, run_underlying h2, hx]

end
end Go.Proofs.YtfmlgiafkbakcaaGreatDoor.Ev

namespace Go.Proofs.YtfmlgiafkbakcaaGreatDoor.Ev

section
variable {P : Program} {a : Act} {o : Oper} {ι : Io} {w : World} {h h' : H} {v : AV}

/-- a slice's cells in the world -/
theorem slice_src (hh : HR h ι w) {xa : AV} {xv : Value} (hx : VR ι xa xv) {z : Nat} {cs : AV} (hc : sliceCells xa z h = some cs) {m : Nat} (hm : lenA xa = some m) :
    ∃ vs : List Value, VRl ι cs vs ∧ (∀ u ∈ vs, u.oneCell' = true) ∧ vs.length = m * z ∧ ((xv = .slice none 0 0 ∧ m = 0) ∨ ∃ ad cap, xv = .slice (some ad) m cap ∧ m ≤ cap ∧ ∀ j u, vs[j]? = some u → w.cell? (ad.add j) = some u) := by
  unfold sliceCells at hc
  split at hc
  case h_3 => cases hc
  · injection hc with hc
    subst hc
    simp only [lenA, Option.some.injEq] at hm
    subst hm
    simp only [VR] at hx
    exact ⟨[], by simp [VRl], by simp, by simp, .inl ⟨hx, rfl⟩⟩
  · rename_i id off len z' ex
    simp only [lenA, Option.some.injEq] at hm
    subst hm
    split at hc
    case h_2 => cases hc
    rename_i c n own ancs hget
    split at hc
    case h_2 => cases hc
    rename_i hle
    obtain ⟨l, arr, t, hl, hg, hsz, hn, hcell⟩ := hh.obj id _ hget
    obtain ⟨vs, h1, h2, h3, h4⟩ := getL_range hcell _ off cs (by simpa using hle) hc
    simp only [VR] at hx
    obtain ⟨l', ad, cap, hl', rfl, hc1, hc2, hc3, hc4⟩ := hx
    have : l' = l := by rw [hl] at hl'; injection hl' with hl'; exact hl'.symm
    subst this
    refine ⟨vs, h2, h3, h1, .inr ⟨ad, cap, rfl, hc1, fun j u hj => ?_⟩⟩
    have hlen : 0 < len := by
      have h5 : j < vs.length := (List.getElem?_eq_some_iff.1 hj).1
      rw [h1] at h5
      rcases Nat.eq_zero_or_pos len with h6 | h6
      · subst h6; simp at h5
      · exact h6
    have had := hc3 (by omega)
    subst had
    rw [Addr.add_mid]
    exact range_of hg h4 j u hj

theorem bytesA_spec : ∀ {cs : AV} {vs : List Value} {k n : Nat}, bytesA cs = some (k, n) → VRl ι cs vs → n < 256 ^ k ∧ vs = (decS k n).map fun b => Value.int .u8 (b.toNat : Int)
  | .nil, vs, k, n, hb, hv => by
    simp only [bytesA, Option.some.injEq, Prod.mk.injEq] at hb
    obtain ⟨rfl, rfl⟩ := hb
    simp only [VRl] at hv
    subst hv
    exact ⟨by simp, rfl⟩
  | .cons a l, vs, k, n, hb, hv => by
    unfold bytesA at hb
    split at hb
    case h_1 => contradiction
    case h_3 => cases hb
    rename_i b l' heq
    injection heq with h1 h2
    subst h1 h2
    split at hb
    case h_2 => cases hb
    rename_i k' n' hlt hl
    simp only [Option.some.injEq, Prod.mk.injEq] at hb
    obtain ⟨rfl, rfl⟩ := hb
    simp only [VRl, VR] at hv
    obtain ⟨u, m, rfl, rfl, hv⟩ := hv
    obtain ⟨h3, rfl⟩ := bytesA_spec hl hv
    have hlt : b < 256 := by simpa using hlt
    have e0 : Nat.add b (Nat.mul 256 n') = b + 256 * n' := rfl
    have e1 : (b + 256 * n') % 256 = b := by omega
    have e2 : (b + 256 * n') / 256 = n' := by omega
    refine ⟨?_, ?_⟩
    · rw [e0, Nat.pow_succ]
      omega
    · rw [e0]
      simp only [decS, List.map_cons, e1, e2]
      congr 2
      simp only [UInt8.toNat_ofNat', Int.ofNat_eq_natCast]
      omega
  | .int .., _, _, _, hb, _ | .bool .., _, _, _, hb, _ | .str .., _, _, _, hb, _ | .nilp, _, _, _, hb, _ | .ptr .., _, _, _, hb, _ | .nils, _, _, _, hb, _ | .sl .., _, _, _, hb, _ | .slen .., _, _, _, hb, _ | .nilm, _, _, _, hb, _ | .map .., _, _, _, hb, _ | .nilf, _, _, _, hb, _ | .nili, _, _, _, hb, _ | .fn .., _, _, _, hb, _ | .ifc .., _, _, _, hb, _ | .agg .., _, _, _, hb, _ | .tup .., _, _, _, hb, _ => by simp [bytesA] at hb

theorem decS_len : ∀ (k n : Nat), (decS k n).length = k
  | 0, _ => rfl
  | k + 1, n => by simp [decS, decS_len k]

/-- bytes made a text -/
theorem bytesStr_ok (hh : HR h ι w) {s t el : TypeId} {x : Operand} (ho : o.op = .convert s t x) (hs : P.underlying s = some (.slice el)) (he : P.underlying el = some (.int .u8)) (ht : P.underlying t = some .string) {xa : AV} (hx : VR ι xa (a.eval x)) (hr : bytesStrA xa h = .ok v h') : PureR P a o v h ι w h' := by
  unfold bytesStrA at hr
  split at hr
  case h_2 => cases hr
  rename_i cs hcs
  split at hr
  case h_2 => cases hr
  rename_i k n hb
  rw [forceN_eq, forceN_eq] at hr
  injection hr with e1 e2
  subst e1 e2
  obtain ⟨m, hm⟩ : ∃ m, lenA xa = some m := by
    unfold sliceCells at hcs
    split at hcs
    case h_3 => cases hcs
    · exact ⟨0, rfl⟩
    · exact ⟨_, rfl⟩
  obtain ⟨vs, h1, _, h3, h4⟩ := slice_src hh hx hcs hm
  obtain ⟨hn, rfl⟩ := bytesA_spec hb h1
  rw [List.length_map, decS_len, Nat.mul_one] at h3
  subst h3
  refine ⟨rfl, .string (strV k n), ?_, ⟨rfl, hn⟩⟩
  unfold execOp
  rw [ho]
  simp only [Sem.run_bind, Sem.run_pure]
  have hconv : (convert s t (a.eval x)).run P w = .ok (.string (strV k n)) w := by
    rcases h4 with ⟨hv, hk⟩ | ⟨ad, cap, hv, _, hc⟩
    · subst hk
      rw [hv, run_convert_bytes_string w s t el none 0 0 hs he ht]
      simp [Conv.bytesToString, strV, decS]
      rfl
    · rw [hv]
      have hb := run_convert_bytes_back (P := P) w s t el ad cap (decS k n) hs he ht fun j hj => hc j _ (by
        rw [List.getElem?_map, List.getElem?_eq_getElem hj]
        rfl)
      rw [decS_len] at hb
      exact hb
  rw [hconv]
  rfl

/-- an operand that may be missing -/
def OV (ι : Io) : Option AV → Option Value → Prop
  | none, none => True
  | some x, some v => VR ι x v
  | _, _ => False

theorem bound_run {x : Value} {k : IntKind} {m y : Nat} (hx : x = .int k (m : Int)) (hle : m ≤ y) (code : BoundsCode) : (Instr.sliceBound x y code).run P w = .ok m w := by
  subst hx
  have h1 : (m : Int) ≤ y := by omega
  simp [Instr.sliceBound, asIntOf, h1]

theorem natA_spec {d m : Nat} {xa : Option AV} {xv : Option Value} (hv : OV ι xa xv) (hn : natA d xa = some m) : (xv = none ∧ m = d) ∨ ∃ k, xv = some (.int k (m : Int)) := by
  cases xa with
  | none =>
    cases xv with
    | none => simp only [natA, Option.some.injEq] at hn; exact .inl ⟨rfl, hn.symm⟩
    | some x => exact hv.elim
  | some xa =>
    cases xv with
    | none => exact hv.elim
    | some x =>
      unfold natA at hn
      split at hn
      · rename_i h0; cases h0
      · rename_i k n h0
        injection h0 with h0
        subst h0
        injection hn with hn
        subst hn
        exact .inr ⟨k, by simp only [OV, VR] at hv; rw [hv]; rfl⟩
      · cases hn

theorem bounds_run {isSlice : Bool} {len cap l k : Nat} {lo hi : Option Value} {loA hiA : Option AV} (hlo : OV ι loA lo) (hhi : OV ι hiA hi) (h1 : natA 0 loA = some l) (h2 : natA len hiA = some k) (h3 : l ≤ k) (h4 : k ≤ len) (h5 : len ≤ cap) :
    (Instr.sliceBounds isSlice len cap lo hi none).run P w = .ok (l, k, cap) w := by
  have hk : k ≤ cap := by omega
  rcases natA_spec hlo h1 with ⟨rfl, rfl⟩ | ⟨j1, rfl⟩ <;> rcases natA_spec hhi h2 with ⟨rfl, rfl⟩ | ⟨j2, rfl⟩ <;>
    simp [Instr.sliceBounds, bound_run (P := P) (w := w) (k := _) rfl hk, bound_run (P := P) (w := w) (k := _) rfl h3]

theorem strV_extract {len s l k : Nat} (h1 : l ≤ k) (h2 : k ≤ len) : (strV len s).extract l k = strV (k - l) (s / 256 ^ l % 256 ^ (k - l)) := by
  have e : ((strV len s).extract l k).data.toList = decS (k - l) (s / 256 ^ l % 256 ^ (k - l)) := by
    simp only [ByteArray.data_extract, Array.toList_extract]
    show ((decS len s).toArray.toList).extract l k = _
    rw [List.extract_eq_take_drop, ← decS_take (len - l) (k - l) (s / 256 ^ l) (by omega), ← decS_drop len l s (by omega)]
  have e2 : ((strV len s).extract l k).data = (decS (k - l) (s / 256 ^ l % 256 ^ (k - l))).toArray := by
    rw [← e]
  cases hx : (strV len s).extract l k with
  | mk d => rw [hx] at e2; simp only at e2; subst e2; rfl

theorem slice_ok (_hh : HR h ι w) {t : TypeId} {x : Operand} {lo hi : Option Operand} (ho : o.op = .slice t x lo hi none) {str : Bool} {z : Nat} (ht : (str = true ∧ P.underlying t = some .string) ∨ ∃ el, str = false ∧ P.underlying t = some (.slice el) ∧ szT P el = some z) {xa : AV} {loA hiA : Option AV}
    (hx : VR ι xa (a.eval x)) (hlo : OV ι loA (lo.map a.eval)) (hhi : OV ι hiA (hi.map a.eval)) (hr : sliceA str z xa loA hiA h = .ok v h') : PureR P a o v h ι w h' := by
  unfold sliceA at hr
  split at hr
  case h_2 => cases hr
  rename_i len hlen
  split at hr
  case h_2 => cases hr
  rename_i l k hl hk
  split at hr
  case h_2 => cases hr
  rename_i hle
  simp only [Bool.and_eq_true, Nat.ble_eq] at hle
  split at hr
  case h_4 => cases hr
  · -- nil
    injection hr with e1 e2
    subst e1 e2
    simp only [lenA, Option.some.injEq] at hlen
    subst hlen
    have hb := bounds_run (P := P) (w := w) (isSlice := true) (cap := 0) hlo hhi hl hk hle.1 hle.2 (Nat.le_refl 0)
    have hl0 : l = 0 := by omega
    have hk0 : k = 0 := by omega
    subst hl0 hk0
    simp only [VR] at hx
    rcases ht with ⟨ht0, _⟩ | ⟨el, _, ht, hz⟩
    · cases ht0
    · obtain ⟨i, hi, hs⟩ := szT_info hz
      refine ⟨rfl, (.slice none 0 0), ?_, rfl⟩
      unfold execOp
      rw [ho]
      simp [hx, Instr.sliceAt, Instr.slice, run_underlying ht, hb, sizeOf, typeInfo, hi]
  · rename_i id off len' z' ex
    split at hr
    case h_2 => cases hr
    rename_i hzz
    simp only [Nat.beq_eq] at hzz
    subst hzz
    rw [forceN_eq, forceN_eq] at hr
    injection hr with e1 e2
    subst e1 e2
    simp only [lenA, Option.some.injEq] at hlen
    subst hlen
    simp only [VR] at hx
    obtain ⟨lc, ad, cap, hlc, hx, hc1, hc2, hc3, hc4⟩ := hx
    have hb := bounds_run (P := P) (w := w) (isSlice := true) (cap := cap) hlo hhi hl hk hle.1 hle.2 hc1
    rcases ht with ⟨ht0, _⟩ | ⟨el, _, ht, hz⟩
    · cases ht0
    · obtain ⟨i, hi, hs⟩ := szT_info hz
      refine ⟨rfl, (.slice (some (if cap = l then ad else ad.add (l * z))) (k - l) (cap - l)), ?_, ⟨lc, _, _, hlc, rfl, by show k - l ≤ cap - l; omega, ?_, ?_, ?_⟩⟩
      · unfold execOp
        rw [ho]
        simp [hx, Instr.sliceAt, Instr.slice, run_underlying ht, hb, sizeOf, typeInfo, hi, hs]
        split <;> simp
      · intro hex
        simp only [Bool.and_eq_true, Nat.beq_eq] at hex
        have := hc2 hex.1
        show cap - l = k - l
        omega
      · intro hne
        have h0 : cap ≠ l := by omega
        have h1 : cap ≠ 0 := by omega
        rw [if_neg h0, hc3 h1, Addr.add_mid]
        show (⟨lc.g, lc.base + off + l * z, none⟩ : Addr) = ⟨lc.g, lc.base + (off + l * z), none⟩
        rw [Nat.add_assoc]
      · show lc.base + (off + l * z) + (cap - l) * z ≤ lc.size
        have h0 : l * z + (cap - l) * z = cap * z := by rw [← Nat.add_mul, Nat.add_sub_cancel' (by omega)]
        omega
  · rename_i len' s
    rw [forceN_eq, forceN_eq] at hr
    injection hr with e1 e2
    subst e1 e2
    simp only [lenA, Option.some.injEq] at hlen
    subst hlen
    simp only [VR] at hx
    obtain ⟨hx, hlt⟩ := hx
    have hb := bounds_run (P := P) (w := w) (isSlice := false) (cap := len') hlo hhi hl hk hle.1 hle.2 (Nat.le_refl _)
    rcases ht with ⟨_, ht⟩ | ⟨el, ht0, ht, hz⟩
    · refine ⟨rfl, (.string ((strV len' s).extract l k)), ?_, ⟨?_, Nat.mod_lt _ (Nat.pow_pos (by omega))⟩⟩
      · unfold execOp
        rw [ho]
        have hsz : (strV len' s).size = len' := strV_size len' s
        simp [hx, Instr.sliceAt, Instr.slice, run_underlying ht, hsz, hb]
      · rw [strV_extract hle.1 hle.2]
        rfl
    · cases ht0

/-! ### slices made -/

theorem zeroC_info {t : TypeId} {z : AV} (h : zeroC P t = some z) : ∃ i v, P.info? t = some i ∧ i.zero = some v ∧ VRl ι z v.cells.toList ∧ ∀ u ∈ v.cells.toList, u.oneCell' = true := by
  unfold zeroC at h
  split at h
  case h_2 => cases h
  rename_i z' hz
  obtain ⟨i, u, hi, hu, hav⟩ := zeroT_info hz
  obtain ⟨h1, h2⟩ := (VR.of ι hav).cells h
  exact ⟨i, u, hi, hu, h1, h2⟩

/-- cells of a new block, as a slice -/
theorem newSlice_ok (hh : HR h ι w) {c : Tr AV} {n len z cap : Nat} {ex : Bool} {arr : Array Value} {t : TypeId} {w' : World} (hw : w'.heap = w.heap.push (.cells arr t)) (h1 : w'.os = w.os) (h2 : w'.tape = w.tape) (h3 : w'.output = w.output)
    (hn : n ≤ arr.size) (hc : ∀ i a, i < n → c.get i = some a → ∃ v, arr[i]? = some v ∧ VR ι a v ∧ v.oneCell' = true) (hlc : len ≤ cap) (hex : ex = true → cap = len) (hcz : cap * z ≤ arr.size)
    (hrun : (execOp a.eval o).run P w = .ok (.value (.slice (some ⟨w.heap.size, 0, none⟩) len cap)) w') :
    OpOk P a o (.sl h.next 0 len z ex) h ι w ⟨h.objs.set (some (.cells c n true [])) h.next, Nat.succ h.next⟩ := by
  obtain ⟨h4, h5⟩ := hh.newCells c n arr t hw h1 h2 h3 hn hc
  refine .value hrun ⟨_, _, cap, upd_same, rfl, hlc, hex, fun _ => by simp, by simpa using hcz⟩ h4 h5

end
end Go.Proofs.YtfmlgiafkbakcaaGreatDoor.Ev

/- Data as it lies in memory: numbers, texts, structs, slices of these, however deep. -/
import Derived.Test.YthdicdkgfmiepaaGreatDoorMem
import Derived.Maps.AppendAt
namespace Go.Proofs.YthdicdkgfmiepaaGreatDoor
open Go.RowKit

/-- a datum: a struct's fields lie one behind the other; a slice knows how many cells an element takes -/
inductive D where
  | int (k : IntKind) (n : Int)
  | bool (b : Bool)
  | str (s : List UInt8)
  | st (fs : List D)
  | lst (z : Nat) (xs : List D)

mutual
/-- these cells hold the datum; all that it leads to lies in blocks that are ok -/
def Rep (w : World) (ok : Nat → Prop) : D → List Value → Prop
  | .int k n, cs => cs = [.int k n]
  | .bool b, cs => cs = [.bool b]
  | .str s, cs => cs = [.string ⟨s.toArray⟩]
  | .st fs, cs => RepAll w ok fs cs
  | .lst z xs, cs => ∃ (A : Option Addr) (c : Nat), cs = [.slice A xs.length c] ∧ xs.length ≤ c ∧ c ≤ maxLen ∧
      (0 < xs.length → ∃ (g off : Nat) (cur : Array Value) (t : TypeId) (fr : Nat × Nat), A = some ⟨g, off, none⟩ ∧ ok g ∧ w.heap[g]? = some (.cells cur t fr) ∧ RepRow w ok z xs (cur.toList.drop off))
def RepAll (w : World) (ok : Nat → Prop) : List D → List Value → Prop
  | [], cs => cs = []
  | d :: ds, cs => ∃ a b : List Value, cs = a ++ b ∧ Rep w ok d a ∧ RepAll w ok ds b
def RepRow (w : World) (ok : Nat → Prop) (z : Nat) : List D → List Value → Prop
  | [], _ => True
  | d :: ds, cs => ∃ a b : List Value, cs = a ++ b ∧ a.length = z ∧ Rep w ok d a ∧ RepRow w ok z ds b
end

mutual
theorem Rep.keep {w w' : World} {ok ok' : Nat → Prop} (hk : ∀ g, ok g → g < w.heap.size → ok' g) (h : ∀ g, ok g → g < w.heap.size → w'.heap[g]? = w.heap[g]?) : ∀ (d : D) (cs : List Value), Rep w ok d cs → Rep w' ok' d cs
  | .int _ _, _, hr => by unfold Rep at hr ⊢; exact hr
  | .bool _, _, hr => by unfold Rep at hr ⊢; exact hr
  | .str _, _, hr => by unfold Rep at hr ⊢; exact hr
  | .st fs, cs, hr => by unfold Rep at hr ⊢; exact RepAll.keep hk h fs cs hr
  | .lst z xs, cs, hr => by
    unfold Rep at hr ⊢
    obtain ⟨A, c, hcs, hc, hm, hr⟩ := hr
    refine ⟨A, c, hcs, hc, hm, fun hn => ?_⟩
    obtain ⟨g, off, cur, t, fr, hA, hok, hg, hrow⟩ := hr hn
    exact ⟨g, off, cur, t, fr, hA, hk g hok (lt_of_block hg), (h g hok (lt_of_block hg)).trans hg, RepRow.keep hk h z xs _ hrow⟩
theorem RepAll.keep {w w' : World} {ok ok' : Nat → Prop} (hk : ∀ g, ok g → g < w.heap.size → ok' g) (h : ∀ g, ok g → g < w.heap.size → w'.heap[g]? = w.heap[g]?) : ∀ (ds : List D) (cs : List Value), RepAll w ok ds cs → RepAll w' ok' ds cs
  | [], _, hr => by unfold RepAll at hr ⊢; exact hr
  | d :: ds, cs, hr => by
    unfold RepAll at hr ⊢
    obtain ⟨a, b, hcs, h1, h2⟩ := hr
    exact ⟨a, b, hcs, Rep.keep hk h d a h1, RepAll.keep hk h ds b h2⟩
theorem RepRow.keep {w w' : World} {ok ok' : Nat → Prop} (hk : ∀ g, ok g → g < w.heap.size → ok' g) (h : ∀ g, ok g → g < w.heap.size → w'.heap[g]? = w.heap[g]?) (z : Nat) : ∀ (ds : List D) (cs : List Value), RepRow w ok z ds cs → RepRow w' ok' z ds cs
  | [], _, _ => by unfold RepRow; exact trivial
  | d :: ds, cs, hr => by
    unfold RepRow at hr ⊢
    obtain ⟨a, b, hcs, hl, h1, h2⟩ := hr
    exact ⟨a, b, hcs, hl, Rep.keep hk h d a h1, RepRow.keep hk h z ds b h2⟩
end

section
variable {w w' : World} {ok : Nat → Prop} {d : D} {cs : List Value}
theorem Rep.any (h : Rep w ok d cs) : Rep w (fun _ => True) d cs := Rep.keep (fun _ _ _ => trivial) (fun _ _ _ => rfl) d cs h
theorem Rep.below (h : Rep w ok d cs) (hb : Below w.heap.size w w') : Rep w' ok d cs := Rep.keep (fun _ h _ => h) (fun g _ hg => hb.block g hg) d cs h
theorem Rep.alloc (h : Rep w ok d cs) (o : Obj) : Rep (w.alloc o) ok d cs := h.below (below_alloc _ _)
theorem Rep.drewN (h : Rep w ok d cs) (n : Nat) : Rep (w.drewN n) ok d cs := Rep.keep (w := w) (w' := w.drewN n) (fun _ h _ => h) (fun _ _ _ => rfl) d cs h
theorem Rep.drew (h : Rep w ok d cs) : Rep w.drew ok d cs := Rep.keep (w := w) (w' := w.drew) (fun _ h _ => h) (fun _ _ _ => rfl) d cs h
theorem Rep.imp {ok' : Nat → Prop} (h : Rep w ok d cs) (hk : ∀ g, ok g → g < w.heap.size → ok' g) : Rep w ok' d cs := Rep.keep hk (fun _ _ _ => rfl) d cs h
/-- what lies there lies ahead of what comes later -/
theorem Rep.lt (h : Rep w ok d cs) : Rep w (fun g => ok g ∧ g < w.heap.size) d cs := Rep.keep (fun _ h hg => ⟨h, hg⟩) (fun _ _ _ => rfl) d cs h
end

/-- row k of a slice, and its cells -/
theorem RepRow.at_ {w : World} {ok : Nat → Prop} {z : Nat} : ∀ (ds : List D) (cs : List Value) (k : Nat) (hk : k < ds.length), RepRow w ok z ds cs → ∃ a : List Value, a.length = z ∧ Rep w ok ds[k] a ∧ ∀ j, j < z → cs[k * z + j]? = a[j]?
  | d :: ds, cs, 0, _, hr => by
    unfold RepRow at hr
    obtain ⟨a, b, rfl, hl, h1, _⟩ := hr
    refine ⟨a, hl, h1, fun j hj => ?_⟩
    rw [Nat.zero_mul, Nat.zero_add, List.getElem?_append_left (by omega)]
  | d :: ds, cs, k + 1, hk, hr => by
    unfold RepRow at hr
    obtain ⟨a, b, rfl, hl, _, h2⟩ := hr
    obtain ⟨a', h3, h4, h5⟩ := RepRow.at_ ds b k (by simpa using hk) h2
    refine ⟨a', h3, h4, fun j hj => ?_⟩
    rw [List.getElem?_append_right (by rw [hl, Nat.add_mul]; omega), ← h5 j hj]
    congr 1
    rw [hl, Nat.add_mul]; omega

theorem Rep.at_ {w : World} {ok : Nat → Prop} {z : Nat} {xs : List D} {A : Option Addr} {n c : Nat} (h : Rep w ok (.lst z xs) [.slice A n c]) (k : Nat) (hk : k < xs.length) :
    ∃ (g off : Nat) (a : List Value), A = some ⟨g, off, none⟩ ∧ ok g ∧ g < w.heap.size ∧ a.length = z ∧ Rep w ok xs[k] a ∧ ∀ j, j < z → w.cell? ⟨g, off + (k * z + j), none⟩ = a[j]? := by
  unfold Rep at h
  obtain ⟨A', c', he, _, _, h⟩ := h
  injection he with he _
  injection he with hA _ _
  subst hA
  obtain ⟨g, off, cur, t, fr, hA, hok, hg, hrow⟩ := h (by omega)
  obtain ⟨a, h1, h2, h3⟩ := RepRow.at_ xs _ k hk hrow
  refine ⟨g, off, a, hA, hok, lt_of_block hg, h1, h2, fun j hj => ?_⟩
  rw [cell_of_row w g _ cur t fr hg, ← h3 j hj, List.getElem?_drop]
  simp

theorem Rep.len {w : World} {ok : Nat → Prop} {z : Nat} {xs : List D} {v : Value} (h : Rep w ok (.lst z xs) [v]) : ∃ (A : Option Addr) (c : Nat), v = .slice A xs.length c ∧ xs.length ≤ c ∧ c ≤ maxLen := by
  unfold Rep at h
  obtain ⟨A, c, he, hc, hm, _⟩ := h
  injection he with he _
  exact ⟨A, c, he, hc, hm⟩

/-- rows one behind the other, and nothing more -/
def Cells (w : World) (ok : Nat → Prop) (z : Nat) : List D → List Value → Prop
  | [], cs => cs = []
  | d :: ds, cs => ∃ a b : List Value, cs = a ++ b ∧ a.length = z ∧ Rep w ok d a ∧ Cells w ok z ds b

theorem Cells.row {w : World} {ok : Nat → Prop} {z : Nat} (m : List Value) : ∀ {ds : List D} {cs : List Value}, Cells w ok z ds cs → RepRow w ok z ds (cs ++ m)
  | [], _, _ => by unfold RepRow; exact trivial
  | d :: ds, cs, h => by
    obtain ⟨a, b, rfl, hl, h1, h2⟩ := h
    unfold RepRow
    exact ⟨a, b ++ m, by rw [List.append_assoc], hl, h1, Cells.row m h2⟩

theorem Cells.keep {w w' : World} {ok ok' : Nat → Prop} {z : Nat} (hk : ∀ g, ok g → g < w.heap.size → ok' g) (h : ∀ g, ok g → g < w.heap.size → w'.heap[g]? = w.heap[g]?) : ∀ {ds : List D} {cs : List Value}, Cells w ok z ds cs → Cells w' ok' z ds cs
  | [], _, hr => hr
  | d :: ds, cs, hr => by
    obtain ⟨a, b, hcs, hl, h1, h2⟩ := hr
    exact ⟨a, b, hcs, hl, Rep.keep hk h d a h1, Cells.keep hk h h2⟩

theorem Cells.snoc {w : World} {ok : Nat → Prop} {z : Nat} {d : D} {c : List Value} (hl : c.length = z) (hd : Rep w ok d c) : ∀ {ds : List D} {cs : List Value}, Cells w ok z ds cs → Cells w ok z (ds ++ [d]) (cs ++ c)
  | [], cs, h => by
    have h : cs = [] := h
    subst h
    exact ⟨c, [], by simp, hl, hd, rfl⟩
  | e :: ds, cs, h => by
    obtain ⟨a, b, rfl, h1, h2, h3⟩ := h
    exact ⟨a, b ++ c, by rw [List.append_assoc], h1, h2, Cells.snoc hl hd h3⟩

/-- a slice of the call's own (or nil) that holds these -/
def Own (w : World) (B : Nat) (ok : Nat → Prop) (e : TypeId) (z : Nat) (v : Value) (ds : List D) : Prop :=
  ∃ xs : List Value, w.ownsRow B e z v ds.length xs ∧ Cells w (fun g => ok g ∧ some g ≠ v.ownBlock) z ds xs

theorem Own.nil (w : World) (B : Nat) (ok : Nat → Prop) (e : TypeId) (z : Nat) : Own w B ok e z (.slice none 0 0) [] := ⟨[], ⟨by simp, .inl ⟨rfl, rfl⟩⟩, rfl⟩

section
variable {w w' : World} {B : Nat} {ok : Nat → Prop} {e : TypeId} {z : Nat} {v : Value} {ds : List D}
theorem Own.keep (h : Own w B ok e z v ds) (hk : ∀ g, g < w.heap.size → w'.heap[g]? = w.heap[g]?) : Own w' B ok e z v ds := by
  obtain ⟨xs, h1, h2⟩ := h
  refine ⟨xs, ⟨h1.1, ?_⟩, Cells.keep (fun _ h _ => h) (fun g _ hg => hk g hg) h2⟩
  rcases h1.2 with h3 | ⟨g, cap, cur, hv, hb, hh, hr⟩
  · exact .inl h3
  · exact .inr ⟨g, cap, cur, hv, hb, (hk g (lt_of_block hh)).trans hh, hr⟩
theorem Own.below (h : Own w B ok e z v ds) (hb : Below w.heap.size w w') : Own w' B ok e z v ds := h.keep fun g hg => hb.block g hg
theorem Own.alloc (h : Own w B ok e z v ds) (o : Obj) : Own (w.alloc o) B ok e z v ds := h.below (below_alloc _ _)
theorem Own.drew (h : Own w B ok e z v ds) : Own w.drew B ok e z v ds := h.keep (w' := w.drew) fun _ _ => rfl
theorem Own.drewN (h : Own w B ok e z v ds) (n : Nat) : Own (w.drewN n) B ok e z v ds := h.keep (w' := w.drewN n) fun _ _ => rfl
theorem Own.base {B' : Nat} (h : Own w B ok e z v ds) (hB : B' ≤ B) : Own w B' ok e z v ds := by
  obtain ⟨xs, h1, h2⟩ := h
  exact ⟨xs, own_base h1 hB, h2⟩
theorem Own.imp {ok' : Nat → Prop} (h : Own w B ok e z v ds) (hk : ∀ g, ok g → g < w.heap.size → ok' g) : Own w B ok' e z v ds := by
  obtain ⟨xs, h1, h2⟩ := h
  exact ⟨xs, h1, Cells.keep (fun g hg hl => ⟨hk g hg.1 hl, hg.2⟩) (fun _ _ _ => rfl) h2⟩
theorem Own.rep (h : Own w B ok e z v ds) : Rep w (fun g => ok g ∨ B ≤ g) (.lst z ds) [v] := by
  obtain ⟨xs, h1, h2⟩ := h
  unfold Rep
  rcases h1.2 with ⟨hv, hn⟩ | ⟨g, cap, cur, hv, hb, hh, hc, hm, hsz, ht⟩
  · exact ⟨none, 0, by rw [hv, hn], by omega, by simp, fun h => absurd h (by omega)⟩
  · refine ⟨some ⟨g, 0, none⟩, cap, by rw [hv], hc, hm, fun _ => ⟨g, 0, cur, e, (0, 0), rfl, .inr hb, hh, ?_⟩⟩
    have h3 : cur.toList.drop 0 = xs ++ cur.toList.drop (ds.length * z) := by
      rw [List.drop_zero, ← ht, List.take_append_drop]
    rw [h3]
    exact RepRow.keep (fun _ h _ => .inl h.1) (fun _ _ _ => rfl) z ds _ (h2.row _)
theorem Own.ne_far (h : Own w B ok e z v ds) {g : Nat} (hg : w.heap.size ≤ g) : some g ≠ v.ownBlock := by
  obtain ⟨xs, h1, _⟩ := h
  exact own_ne_far h1 hg
theorem Own.ge (h : Own w B ok e z v ds) : ∀ k, v.ownBlock = some k → B ≤ k := by
  obtain ⟨xs, h1, _⟩ := h
  exact own_block_ge h1
theorem Own.ne_blk {g : Nat} {t : TypeId} {cs : Array Value} (h : Own w B ok e z v ds) (hg : BlkIs w g t cs) (hne : e ≠ t) : some g ≠ v.ownBlock := by
  obtain ⟨xs, h1, _⟩ := h
  exact own_ne_blk h1 hg hne
end

theorem Cells.length {w : World} {ok : Nat → Prop} {z : Nat} : ∀ {ds : List D} {cs : List Value}, Cells w ok z ds cs → cs.length = ds.length * z
  | [], cs, h => by
    have h : cs = [] := h
    simp [h]
  | d :: ds, cs, h => by
    obtain ⟨a, b, rfl, hl, _, h2⟩ := h
    have := Cells.length h2
    simp only [List.length_append, List.length_cons, hl, this, Nat.add_mul]
    omega

/-- a slice that was written out -/
theorem Own.fresh {w : World} {B : Nat} {ok : Nat → Prop} {e : TypeId} {z : Nat} {ds : List D} {cs : List Value} (hc : Cells w ok z ds cs) (hB : B ≤ w.heap.size) (hn : ds.length ≤ maxLen) {g n : Nat} (hg : g = w.heap.size) (hl : n = ds.length) :
    Own (w.alloc (.cells cs.toArray e)) B ok e z (.slice (some ⟨g, 0, none⟩) n n) ds := by
  subst hg hl
  have hlen := hc.length
  refine ⟨cs, ⟨hlen, .inr ⟨w.heap.size, ds.length, cs.toArray, rfl, hB, heap_alloc_new w _, Nat.le_refl _, hn, by simpa using hlen, ?_⟩⟩, ?_⟩
  · rw [← hlen]; simp
  · refine Cells.keep (fun g hok hg => ⟨hok, ?_⟩) (fun g _ hg => Below.heap_alloc w _ g hg) hc
    intro h
    have : g = w.heap.size := by simpa [Value.ownBlock] using h
    omega

/-- one more at the end -/
theorem append_one {P : Program} {ops : Array Oper} {rest : List Oper} {o : Oper} {a : Act} {Q : Exit → Act → World → Prop} {w : World} (hgd : o.guard = none) (s x : Operand) (T e : TypeId) (z bytes : Nat) (zero : Value)
    (ho : o.op = .call { callee := .builtin .append, args := #[s, x], argTypes := #[T, T] })
    (hT : P.underlying T = some (.slice e)) (hi : (P.info? e).map (fun i => (i.zero, i.size, i.bytes)) = some (some zero, z, bytes)) (hzs : zero.cells.size = z) (hsz : 0 < z) (hb : bytes ≤ 1000)
    (B : Nat) (ok : Nat → Prop) (v : Value) (ds : List D) (hs : a.eval s = v) (g : Nat) (hx : a.eval x = .slice (some ⟨g, 0, none⟩) 1 1)
    (hown : Own w B ok e z v ds) (cs : List Value) (d : D) (hnew : BlkIs w g e cs.toArray) (hl : cs.length = z) (h1 : ∀ u ∈ cs, u.oneCell' = true)
    (hd : Rep w (fun k => ok k ∧ some k ≠ v.ownBlock) d cs) (hlen : ds.length ≤ 1000000000) (hB : B ≤ w.heap.size)
    (h : ∀ v' w', Own w' B ok e z v' (ds ++ [d]) → Below B w w' → (∀ k, some k ≠ v.ownBlock → k < w.heap.size → w'.heap[k]? = w.heap[k]?) → wpList P ops Q rest (a.put o.dst v') w') :
    wpList P ops Q (o :: rest) a w := by
  obtain ⟨i0, hi0, hz0, hz1, hz2⟩ := info_parts hi
  obtain ⟨xs, hrow, hcells⟩ := hown
  have hmul : (ds.length + 1) * bytes ≤ 140737488355328 := by
    have := Nat.mul_le_mul (show ds.length + 1 ≤ 1000000001 by omega) hb
    omega
  obtain ⟨v', w', hrun, h2, h3, _, h5⟩ := run_append_own_at (P := P) w B T o.type e i0 zero z bytes hT hi0 hz0 hz1 hz2 hzs hsz v ds.length xs hrow ⟨g, 0, none⟩ 1 1 cs (by rw [hl]; omega) (hnew.cells (by simp)) h1 (by unfold maxLen; omega) hmul hB
  refine wpList_plain hgd fun _ hK => ?_
  unfold Oper.wp execOp
  simp only [ho, resolve, invoke, builtin, Sem.run_bind, Sem.run_pure, Result.andThen_ok, List.map_toArray, List.map_cons, List.map_nil, hs, hx, hrun]
  refine hK _ _ (h v' w' ⟨xs ++ cs, by rw [List.length_append]; exact h2, ?_⟩ ((Below.refl _ _).grown h3 hB (own_block_ge hrow)) (fun k hk hlt => h3.block k hlt hk))
  have hkeep : ∀ k, some k ≠ v.ownBlock → k < w.heap.size → w'.heap[k]? = w.heap[k]? := fun k hk hlt => h3.block k hlt hk
  have hok : ∀ k, ok k ∧ some k ≠ v.ownBlock → k < w.heap.size → ok k ∧ some k ≠ v'.ownBlock := by
    intro k hk hlt
    refine ⟨hk.1, ?_⟩
    rcases h5 with h5 | h5
    · rw [h5]; exact hk.2
    · rw [h5]; intro e; injection e with e; omega
  exact Cells.snoc hl (Rep.keep hok (fun k hk => hkeep k hk.2) d cs hd) (Cells.keep hok (fun k hk => hkeep k hk.2) hcells)

mutual
theorem Rep.one {w : World} {ok : Nat → Prop} : ∀ (d : D) (cs : List Value), Rep w ok d cs → ∀ u ∈ cs, u.oneCell' = true
  | .int _ _, _, hr => by unfold Rep at hr; subst hr; simp [Value.oneCell']
  | .bool _, _, hr => by unfold Rep at hr; subst hr; simp [Value.oneCell']
  | .str _, _, hr => by unfold Rep at hr; subst hr; simp [Value.oneCell']
  | .st fs, cs, hr => by unfold Rep at hr; exact RepAll.one fs cs hr
  | .lst z xs, cs, hr => by
    unfold Rep at hr
    obtain ⟨A, c, rfl, _⟩ := hr
    simp [Value.oneCell']
theorem RepAll.one {w : World} {ok : Nat → Prop} : ∀ (ds : List D) (cs : List Value), RepAll w ok ds cs → ∀ u ∈ cs, u.oneCell' = true
  | [], _, hr => by unfold RepAll at hr; subst hr; simp
  | d :: ds, cs, hr => by
    unfold RepAll at hr
    obtain ⟨a, b, rfl, h1, h2⟩ := hr
    intro u hu
    rcases List.mem_append.1 hu with hu | hu
    · exact Rep.one d a h1 u hu
    · exact RepAll.one ds b h2 u hu
end

theorem Cells.one {w : World} {ok : Nat → Prop} {z : Nat} : ∀ {ds : List D} {cs : List Value}, Cells w ok z ds cs → ∀ u ∈ cs, u.oneCell' = true
  | [], cs, h => by
    have h : cs = [] := h
    subst h; simp
  | d :: ds, cs, h => by
    obtain ⟨a, b, rfl, _, h1, h2⟩ := h
    intro u hu
    rcases List.mem_append.1 hu with hu | hu
    · exact Rep.one d a h1 u hu
    · exact Cells.one h2 u hu

theorem Cells.append {w : World} {ok : Nat → Prop} {z : Nat} {es : List D} {ys : List Value} (h : Cells w ok z es ys) : ∀ {ds : List D} {cs : List Value}, Cells w ok z ds cs → Cells w ok z (ds ++ es) (cs ++ ys)
  | [], cs, h0 => by
    have h0 : cs = [] := h0
    subst h0; simpa using h
  | d :: ds, cs, h0 => by
    obtain ⟨a, b, rfl, h1, h2, h3⟩ := h0
    exact ⟨a, b ++ ys, by rw [List.append_assoc], h1, h2, Cells.append h h3⟩

/-- all of another slice at the end -/
theorem append_all {P : Program} {ops : Array Oper} {rest : List Oper} {o : Oper} {a : Act} {Q : Exit → Act → World → Prop} {w : World} (hgd : o.guard = none) (s x : Operand) (T e : TypeId) (z bytes : Nat) (zero : Value)
    (ho : o.op = .call { callee := .builtin .append, args := #[s, x], argTypes := #[T, T] })
    (hT : P.underlying T = some (.slice e)) (hi : (P.info? e).map (fun i => (i.zero, i.size, i.bytes)) = some (some zero, z, bytes)) (hzs : zero.cells.size = z) (hsz : 0 < z) (hb : bytes ≤ 1000)
    (B : Nat) (ok : Nat → Prop) (v : Value) (ds : List D) (hs : a.eval s = v) (v2 : Value) (hx : a.eval x = v2)
    (hown : Own w B ok e z v ds) (B2 : Nat) (ok2 : Nat → Prop) (es : List D) (hsrc : Own w B2 ok2 e z v2 es) (hok2 : ∀ k, ok2 k → ok k ∧ some k ≠ v.ownBlock)
    (hlen : ds.length + es.length ≤ 1000000000) (hB : B ≤ w.heap.size)
    (h : ∀ v' w', Own w' B ok e z v' (ds ++ es) → Below B w w' → (∀ k, some k ≠ v.ownBlock → k < w.heap.size → w'.heap[k]? = w.heap[k]?) → wpList P ops Q rest (a.put o.dst v') w') :
    wpList P ops Q (o :: rest) a w := by
  obtain ⟨i0, hi0, hz0, hz1, hz2⟩ := info_parts hi
  obtain ⟨xs, hrow, hcells⟩ := hown
  obtain ⟨ys, hrow2, hcells2⟩ := hsrc
  rcases hrow2.2 with ⟨hv2, hn2⟩ | ⟨g2, cap2, cur2, hv2, _, hh2, hc2, _, hs2, ht2⟩
  · have hes : es = [] := List.eq_nil_of_length_eq_zero hn2
    subst hes
    refine wpList_plain hgd fun _ hK => ?_
    have hrun : (Builtin.append_ #[T, T] o.type #[v, .slice none 0 0]).run P w = .ok v w := by
      rcases hrow.2 with ⟨rfl, _⟩ | ⟨g, cap, cur, rfl, _, _, hnc, _⟩
      · simp [Builtin.append_, run_underlying hT, sizeOf, typeInfo, hi0, Builtin.lenOf, Builtin.firstCells]
      · simp [Builtin.append_, run_underlying hT, sizeOf, typeInfo, hi0, Builtin.lenOf, Builtin.firstCells, hnc, storeCells]
    unfold Oper.wp execOp
    simp only [ho, resolve, invoke, builtin, Sem.run_bind, Sem.run_pure, Result.andThen_ok, List.map_toArray, List.map_cons, List.map_nil, hs, hx, hv2, hrun]
    exact hK _ _ (h v w ⟨xs, by simpa using hrow, by simpa using hcells⟩ (Below.refl _ _) (fun _ _ _ => rfl))
  · have hmul : (ds.length + es.length) * bytes ≤ 140737488355328 := by
      have := Nat.mul_le_mul hlen hb
      omega
    have hnews : ∀ j u, ys[j]? = some u → w.cell? ((⟨g2, 0, none⟩ : Addr).add j) = some u := by
      intro j u hu
      have e1 : (⟨g2, 0, none⟩ : Addr).add j = ⟨g2, j, none⟩ := by
        unfold Addr.add
        split
        · rename_i h0; rw [h0]
        · simp
      rw [e1, cell_of_row w g2 j cur2 e (0, 0) hh2]
      have h1 : j < ys.length := (List.getElem?_eq_some_iff.1 hu).1
      rw [← ht2] at hu h1
      rw [List.getElem?_take] at hu
      split at hu
      · simpa using hu
      · cases hu
    obtain ⟨v', w', hrun, h2, h3, _, h5⟩ := run_append_own_at (P := P) w B T o.type e i0 zero z bytes hT hi0 hz0 hz1 hz2 hzs hsz v ds.length xs hrow ⟨g2, 0, none⟩ es.length cap2 ys hrow2.1 hnews (Cells.one hcells2) (by unfold maxLen; omega) hmul hB
    refine wpList_plain hgd fun _ hK => ?_
    unfold Oper.wp execOp
    simp only [ho, resolve, invoke, builtin, Sem.run_bind, Sem.run_pure, Result.andThen_ok, List.map_toArray, List.map_cons, List.map_nil, hs, hx, hv2, hrun]
    have hkeep : ∀ k, some k ≠ v.ownBlock → k < w.heap.size → w'.heap[k]? = w.heap[k]? := fun k hk hlt => h3.block k hlt hk
    have hok : ∀ k, ok k ∧ some k ≠ v.ownBlock → k < w.heap.size → ok k ∧ some k ≠ v'.ownBlock := by
      intro k hk hlt
      refine ⟨hk.1, ?_⟩
      rcases h5 with h5 | h5
      · rw [h5]; exact hk.2
      · rw [h5]; intro e; injection e with e; omega
    refine hK _ _ (h v' w' ⟨xs ++ ys, by rw [List.length_append]; exact h2, ?_⟩ ((Below.refl _ _).grown h3 hB (own_block_ge hrow)) hkeep)
    exact Cells.append (Cells.keep (fun k hk hlt => hok k (hok2 k hk.1) hlt) (fun k hk => hkeep k (hok2 k hk.1).2) hcells2) (Cells.keep hok (fun k hk => hkeep k hk.2) hcells)

end Go.Proofs.YthdicdkgfmiepaaGreatDoor

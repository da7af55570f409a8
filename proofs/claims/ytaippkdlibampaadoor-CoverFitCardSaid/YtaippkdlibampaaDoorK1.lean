/- Small facts on memory: a block that is known whole, kept over what else is done. Data as it lies in memory: numbers, texts, structs, slices of these, however deep. What comes in reads as data: a reading of the form is a datum in memory. Patterns and rules as data; their makers walked. The rules that are no op's. The rules of an op: of two, of one, of an address. The ops' words, and which ops are of two, of one, loads. rule.by: the rules of the ops that are so. slices.Grow at no rules yet. slices.Concat of slices of rules. rule.forms walked. -/
import Derived.Test.YtaippkdlibampaaDoorProg
import Derived.WalkKit
import Derived.WalkSpells
import Derived.WalkLawsBesides
import Derived.Laws.OwnMore
import Derived.Lib.Hide
import Derived.Maps.AppendAt
import Derived.ProofKit
import Derived.Test.YtaippkdlibampaaDoorShelf
import Derived.Outline
import Derived.BigGuardPart
import Derived.Lib.Walk
import Derived.Lib.SliceRun
import Derived.Lib.AppendZerosOnto
namespace Go.Proofs.YtaippkdlibampaaDoor

/- Small facts on memory: a block that is known whole, kept over what else is done. -/
section
open Go.RowKit

theorem below_alloc (w : World) (o : Obj) : Below w.heap.size w (w.alloc o) := (Below.refl _ _).alloc (Nat.le_refl _) _

theorem bcell {W w1 : World} (hb : Below W.heap.size W w1) : (∀ b o, b < W.heap.size → w1.cell? ⟨b, o, none⟩ = W.cell? ⟨b, o, none⟩) ∧ (∀ b o, b < W.heap.size → w1.frozen? ⟨b, o, none⟩ = W.frozen? ⟨b, o, none⟩) :=
  ⟨fun b o h => hb.cell (p := ⟨b, o, none⟩) h, fun b o h => hb.frozen (p := ⟨b, o, none⟩) h⟩

/-- block g holds just these cells, none of them frozen -/
def BlkIs (w : World) (g : Nat) (t : TypeId) (cs : Array Value) : Prop := w.heap[g]? = some (.cells cs t (0, 0))

section
variable {w w' : World} {g : Nat} {t : TypeId} {cs : Array Value}
theorem BlkIs.lt (h : BlkIs w g t cs) : g < w.heap.size := by
  apply Nat.lt_of_not_le
  intro hge
  unfold BlkIs at h
  rw [Array.getElem?_eq_none hge] at h
  cases h
theorem BlkIs.cell (h : BlkIs w g t cs) (i : Nat) : w.cell? ⟨g, i, none⟩ = cs[i]? := cell_of_row w g i cs t (0, 0) h
theorem BlkIs.frozen (h : BlkIs w g t cs) (i : Nat) : w.frozen? ⟨g, i, none⟩ = false := by
  unfold BlkIs at h
  simp [World.frozen?, h]
theorem BlkIs.fresh (w : World) (t : TypeId) (cs : Array Value) : BlkIs (w.alloc (.cells cs t)) w.heap.size t cs := heap_alloc_new w _
theorem BlkIs.fresh1 (w : World) (o : Obj) (t : TypeId) (cs : Array Value) : BlkIs ((w.alloc o).alloc (.cells cs t)) (w.heap.size + 1) t cs := by
  have := BlkIs.fresh (w.alloc o) t cs
  simpa using this
theorem BlkIs.drew (h : BlkIs w g t cs) : BlkIs w.drew g t cs := h
theorem BlkIs.drewN (h : BlkIs w g t cs) (n : Nat) : BlkIs (w.drewN n) g t cs := h
theorem BlkIs.alloc (h : BlkIs w g t cs) (o : Obj) : BlkIs (w.alloc o) g t cs := (Below.heap_alloc w o g h.lt).trans h
theorem BlkIs.far (h : BlkIs w g t cs) {p : Addr} (hp : g ≠ p.block) (u : Value) : BlkIs (w.setCell p u) g t cs := (Below.heap_setCell w p u g hp).trans h
theorem BlkIs.put (h : BlkIs w g t cs) (i : Nat) (u : Value) : BlkIs (w.setCell ⟨g, i, none⟩ u) g t (cs.setIfInBounds i u) := by
  unfold BlkIs at h ⊢
  simp [World.setCell, Array.getElem?_modify, h]
theorem BlkIs.below {B : Nat} (h : BlkIs w g t cs) (hb : Below B w w') (hg : g < B) : BlkIs w' g t cs := (hb.block g hg).trans h
theorem BlkIs.grown {row : Option Nat} (h : BlkIs w g t cs) (hb : w.grownBy w' row) (hg : some g ≠ row) : BlkIs w' g t cs := (hb.block g h.lt hg).trans h
end

/-- what lies in a block that is known whole, cell by cell, as append asks for it -/
theorem BlkIs.cells {w : World} {g : Nat} {t : TypeId} {cs : Array Value} (h : BlkIs w g t cs) {news : List Value} (e : cs.toList = news) : ∀ j u, news[j]? = some u → w.cell? ((⟨g, 0, none⟩ : Addr).add j) = some u := by
  intro j u hu
  have : (⟨g, 0, none⟩ : Addr).add j = ⟨g, j, none⟩ := by
    unfold Addr.add
    split
    · rename_i h0; rw [h0]
    · simp
  rw [this, h.cell j, ← hu, ← e]
  simp

/-- an owned row and a block of another element type are not one -/
theorem own_ne_blk {w : World} {base g : Nat} {e t : TypeId} {size n : Nat} {v : Value} {xs : List Value} {cs : Array Value} (h : w.ownsRow base e size v n xs) (hg : BlkIs w g t cs) (hne : e ≠ t) : some g ≠ v.ownBlock := by
  intro hv
  rcases h.2 with ⟨rfl, _⟩ | ⟨g', cap, cur, rfl, _, hh, _⟩
  · simp [Value.ownBlock] at hv
  · have e1 : g = g' := by simpa [Value.ownBlock] using hv
    subst e1
    unfold BlkIs at hg
    rw [hh] at hg
    injection hg with hg
    injection hg with _ ht
    exact hne ht

theorem own_block_ge {w : World} {base : Nat} {e : TypeId} {size n : Nat} {v : Value} {xs : List Value} (h : w.ownsRow base e size v n xs) : ∀ k, v.ownBlock = some k → base ≤ k := by
  intro k hk
  rcases h.2 with ⟨rfl, _⟩ | ⟨g', cap, cur, rfl, hb, _⟩
  · simp [Value.ownBlock] at hk
  · have e1 : g' = k := by simpa [Value.ownBlock] using hk
    omega

theorem lt_of_block {w : World} {k : Nat} {o : Obj} (h : w.heap[k]? = some o) : k < w.heap.size := by
  apply Nat.lt_of_not_le
  intro hge
  rw [Array.getElem?_eq_none hge] at h
  cases h

/-- what the call owned ahead of a callee that leaves what was there -/
theorem own_below {w w' : World} {base : Nat} {e : TypeId} {size n : Nat} {v : Value} {xs : List Value} (h : w.ownsRow base e size v n xs) (hb : Below w.heap.size w w') : w'.ownsRow base e size v n xs := by
  refine ⟨h.1, ?_⟩
  rcases h.2 with h2 | ⟨g', cap, cur, hv, hbs, hh, hr⟩
  · exact .inl h2
  · exact .inr ⟨g', cap, cur, hv, hbs, (hb.block _ (lt_of_block hh)).trans hh, hr⟩

theorem own_far {w : World} {base : Nat} {e : TypeId} {size n : Nat} {v : Value} {xs : List Value} (h : w.ownsRow base e size v n xs) {p : Addr} (hp : some p.block ≠ v.ownBlock) (u : Value) : (w.setCell p u).ownsRow base e size v n xs := by
  refine ⟨h.1, ?_⟩
  rcases h.2 with h2 | ⟨g', cap, cur, hv, hbs, hh, hr⟩
  · exact .inl h2
  · refine .inr ⟨g', cap, cur, hv, hbs, (Below.heap_setCell w p u g' ?_).trans hh, hr⟩
    intro e
    subst e
    exact hp (by rw [hv]; rfl)

/-- an owned row lies where it lay: a block that came later is another -/
theorem own_ne_far {w : World} {base : Nat} {e : TypeId} {size n : Nat} {v : Value} {xs : List Value} (h : w.ownsRow base e size v n xs) {g : Nat} (hg : w.heap.size ≤ g) : some g ≠ v.ownBlock := by
  intro e
  have := (h.lt g e.symm).2
  omega

theorem own_base {w : World} {base base' : Nat} {e : TypeId} {size n : Nat} {v : Value} {xs : List Value} (h : w.ownsRow base e size v n xs) (hb : base' ≤ base) : w.ownsRow base' e size v n xs := by
  refine ⟨h.1, ?_⟩
  rcases h.2 with h2 | ⟨g', cap, cur, hv, hbs, hh, hr⟩
  · exact .inl h2
  · exact .inr ⟨g', cap, cur, hv, by omega, hh, hr⟩

theorem ext_drop (s : ByteArray) (a : Nat) : (s.extract a s.size).data.toList = s.data.toList.drop a := by
  simp only [ByteArray.data_extract, Array.toList_extract]
  simp
  rw [List.take_of_length_le (by simp)]
theorem ext_size (s : ByteArray) (a : Nat) : (s.extract a s.size).size = s.size - a := by simp

end

/- Data as it lies in memory: numbers, texts, structs, slices of these, however deep. -/
section
open Go.RowKit

/-- a datum: a struct's fields lie one behind the other; a slice knows how many cells an element takes -/
inductive D where
  | int (k : IntKind) (n : Int)
  | bool (b : Bool)
  | str (s : List UInt8)
  | st (fs : List D)
  | lst (z : Nat) (xs : List D)

mutual
/-- these cells hold the datum; all that it leads to lies in blocks that are ok -/
def Rep (w : World) (ok : Nat → Prop) : D → List Value → Prop
  | .int k n, cs => cs = [.int k n]
  | .bool b, cs => cs = [.bool b]
  | .str s, cs => cs = [.string ⟨s.toArray⟩]
  | .st fs, cs => RepAll w ok fs cs
  | .lst z xs, cs => ∃ (A : Option Addr) (c : Nat), cs = [.slice A xs.length c] ∧ xs.length ≤ c ∧ c ≤ maxLen ∧
      (0 < xs.length → ∃ (g off : Nat) (cur : Array Value) (t : TypeId) (fr : Nat × Nat), A = some ⟨g, off, none⟩ ∧ ok g ∧ w.heap[g]? = some (.cells cur t fr) ∧ RepRow w ok z xs (cur.toList.drop off))
def RepAll (w : World) (ok : Nat → Prop) : List D → List Value → Prop
  | [], cs => cs = []
  | d :: ds, cs => ∃ a b : List Value, cs = a ++ b ∧ Rep w ok d a ∧ RepAll w ok ds b
def RepRow (w : World) (ok : Nat → Prop) (z : Nat) : List D → List Value → Prop
  | [], _ => True
  | d :: ds, cs => ∃ a b : List Value, cs = a ++ b ∧ a.length = z ∧ Rep w ok d a ∧ RepRow w ok z ds b
end

mutual
theorem Rep.keep {w w' : World} {ok ok' : Nat → Prop} (hk : ∀ g, ok g → g < w.heap.size → ok' g) (h : ∀ g, ok g → g < w.heap.size → w'.heap[g]? = w.heap[g]?) : ∀ (d : D) (cs : List Value), Rep w ok d cs → Rep w' ok' d cs
  | .int _ _, _, hr => by unfold Rep at hr ⊢; exact hr
  | .bool _, _, hr => by unfold Rep at hr ⊢; exact hr
  | .str _, _, hr => by unfold Rep at hr ⊢; exact hr
  | .st fs, cs, hr => by unfold Rep at hr ⊢; exact RepAll.keep hk h fs cs hr
  | .lst z xs, cs, hr => by
    unfold Rep at hr ⊢
    obtain ⟨A, c, hcs, hc, hm, hr⟩ := hr
    refine ⟨A, c, hcs, hc, hm, fun hn => ?_⟩
    obtain ⟨g, off, cur, t, fr, hA, hok, hg, hrow⟩ := hr hn
    exact ⟨g, off, cur, t, fr, hA, hk g hok (lt_of_block hg), (h g hok (lt_of_block hg)).trans hg, RepRow.keep hk h z xs _ hrow⟩
theorem RepAll.keep {w w' : World} {ok ok' : Nat → Prop} (hk : ∀ g, ok g → g < w.heap.size → ok' g) (h : ∀ g, ok g → g < w.heap.size → w'.heap[g]? = w.heap[g]?) : ∀ (ds : List D) (cs : List Value), RepAll w ok ds cs → RepAll w' ok' ds cs
  | [], _, hr => by unfold RepAll at hr ⊢; exact hr
  | d :: ds, cs, hr => by
    unfold RepAll at hr ⊢
    obtain ⟨a, b, hcs, h1, h2⟩ := hr
    exact ⟨a, b, hcs, Rep.keep hk h d a h1, RepAll.keep hk h ds b h2⟩
theorem RepRow.keep {w w' : World} {ok ok' : Nat → Prop} (hk : ∀ g, ok g → g < w.heap.size → ok' g) (h : ∀ g, ok g → g < w.heap.size → w'.heap[g]? = w.heap[g]?) (z : Nat) : ∀ (ds : List D) (cs : List Value), RepRow w ok z ds cs → RepRow w' ok' z ds cs
  | [], _, _ => by unfold RepRow; exact trivial
  | d :: ds, cs, hr => by
    unfold RepRow at hr ⊢
    obtain ⟨a, b, hcs, hl, h1, h2⟩ := hr
    exact ⟨a, b, hcs, hl, Rep.keep hk h d a h1, RepRow.keep hk h z ds b h2⟩
end

section
variable {w w' : World} {ok : Nat → Prop} {d : D} {cs : List Value}
theorem Rep.any (h : Rep w ok d cs) : Rep w (fun _ => True) d cs := Rep.keep (fun _ _ _ => trivial) (fun _ _ _ => rfl) d cs h
theorem Rep.below (h : Rep w ok d cs) (hb : Below w.heap.size w w') : Rep w' ok d cs := Rep.keep (fun _ h _ => h) (fun g _ hg => hb.block g hg) d cs h
theorem Rep.alloc (h : Rep w ok d cs) (o : Obj) : Rep (w.alloc o) ok d cs := h.below (below_alloc _ _)
theorem Rep.drewN (h : Rep w ok d cs) (n : Nat) : Rep (w.drewN n) ok d cs := Rep.keep (w := w) (w' := w.drewN n) (fun _ h _ => h) (fun _ _ _ => rfl) d cs h
theorem Rep.drew (h : Rep w ok d cs) : Rep w.drew ok d cs := Rep.keep (w := w) (w' := w.drew) (fun _ h _ => h) (fun _ _ _ => rfl) d cs h
theorem Rep.imp {ok' : Nat → Prop} (h : Rep w ok d cs) (hk : ∀ g, ok g → g < w.heap.size → ok' g) : Rep w ok' d cs := Rep.keep hk (fun _ _ _ => rfl) d cs h
/-- what lies there lies ahead of what comes later -/
theorem Rep.lt (h : Rep w ok d cs) : Rep w (fun g => ok g ∧ g < w.heap.size) d cs := Rep.keep (fun _ h hg => ⟨h, hg⟩) (fun _ _ _ => rfl) d cs h
end

/-- row k of a slice, and its cells -/
theorem RepRow.at_ {w : World} {ok : Nat → Prop} {z : Nat} : ∀ (ds : List D) (cs : List Value) (k : Nat) (hk : k < ds.length), RepRow w ok z ds cs → ∃ a : List Value, a.length = z ∧ Rep w ok ds[k] a ∧ ∀ j, j < z → cs[k * z + j]? = a[j]?
  | d :: ds, cs, 0, _, hr => by
    unfold RepRow at hr
    obtain ⟨a, b, rfl, hl, h1, _⟩ := hr
    refine ⟨a, hl, h1, fun j hj => ?_⟩
    rw [Nat.zero_mul, Nat.zero_add, List.getElem?_append_left (by omega)]
  | d :: ds, cs, k + 1, hk, hr => by
    unfold RepRow at hr
    obtain ⟨a, b, rfl, hl, _, h2⟩ := hr
    obtain ⟨a', h3, h4, h5⟩ := RepRow.at_ ds b k (by simpa using hk) h2
    refine ⟨a', h3, h4, fun j hj => ?_⟩
    rw [List.getElem?_append_right (by rw [hl, Nat.add_mul]; omega), ← h5 j hj]
    congr 1
    rw [hl, Nat.add_mul]; omega

theorem Rep.at_ {w : World} {ok : Nat → Prop} {z : Nat} {xs : List D} {A : Option Addr} {n c : Nat} (h : Rep w ok (.lst z xs) [.slice A n c]) (k : Nat) (hk : k < xs.length) :
    ∃ (g off : Nat) (a : List Value), A = some ⟨g, off, none⟩ ∧ ok g ∧ g < w.heap.size ∧ a.length = z ∧ Rep w ok xs[k] a ∧ ∀ j, j < z → w.cell? ⟨g, off + (k * z + j), none⟩ = a[j]? := by
  unfold Rep at h
  obtain ⟨A', c', he, _, _, h⟩ := h
  injection he with he _
  injection he with hA _ _
  subst hA
  obtain ⟨g, off, cur, t, fr, hA, hok, hg, hrow⟩ := h (by omega)
  obtain ⟨a, h1, h2, h3⟩ := RepRow.at_ xs _ k hk hrow
  refine ⟨g, off, a, hA, hok, lt_of_block hg, h1, h2, fun j hj => ?_⟩
  rw [cell_of_row w g _ cur t fr hg, ← h3 j hj, List.getElem?_drop]
  simp

theorem Rep.len {w : World} {ok : Nat → Prop} {z : Nat} {xs : List D} {v : Value} (h : Rep w ok (.lst z xs) [v]) : ∃ (A : Option Addr) (c : Nat), v = .slice A xs.length c ∧ xs.length ≤ c ∧ c ≤ maxLen := by
  unfold Rep at h
  obtain ⟨A, c, he, hc, hm, _⟩ := h
  injection he with he _
  exact ⟨A, c, he, hc, hm⟩

/-- rows one behind the other, and nothing more -/
def Cells (w : World) (ok : Nat → Prop) (z : Nat) : List D → List Value → Prop
  | [], cs => cs = []
  | d :: ds, cs => ∃ a b : List Value, cs = a ++ b ∧ a.length = z ∧ Rep w ok d a ∧ Cells w ok z ds b

theorem Cells.row {w : World} {ok : Nat → Prop} {z : Nat} (m : List Value) : ∀ {ds : List D} {cs : List Value}, Cells w ok z ds cs → RepRow w ok z ds (cs ++ m)
  | [], _, _ => by unfold RepRow; exact trivial
  | d :: ds, cs, h => by
    obtain ⟨a, b, rfl, hl, h1, h2⟩ := h
    unfold RepRow
    exact ⟨a, b ++ m, by rw [List.append_assoc], hl, h1, Cells.row m h2⟩

theorem Cells.keep {w w' : World} {ok ok' : Nat → Prop} {z : Nat} (hk : ∀ g, ok g → g < w.heap.size → ok' g) (h : ∀ g, ok g → g < w.heap.size → w'.heap[g]? = w.heap[g]?) : ∀ {ds : List D} {cs : List Value}, Cells w ok z ds cs → Cells w' ok' z ds cs
  | [], _, hr => hr
  | d :: ds, cs, hr => by
    obtain ⟨a, b, hcs, hl, h1, h2⟩ := hr
    exact ⟨a, b, hcs, hl, Rep.keep hk h d a h1, Cells.keep hk h h2⟩

theorem Cells.snoc {w : World} {ok : Nat → Prop} {z : Nat} {d : D} {c : List Value} (hl : c.length = z) (hd : Rep w ok d c) : ∀ {ds : List D} {cs : List Value}, Cells w ok z ds cs → Cells w ok z (ds ++ [d]) (cs ++ c)
  | [], cs, h => by
    have h : cs = [] := h
    subst h
    exact ⟨c, [], by simp, hl, hd, rfl⟩
  | e :: ds, cs, h => by
    obtain ⟨a, b, rfl, h1, h2, h3⟩ := h
    exact ⟨a, b ++ c, by rw [List.append_assoc], h1, h2, Cells.snoc hl hd h3⟩

/-- a slice of the call's own (or nil) that holds these -/
def Own (w : World) (B : Nat) (ok : Nat → Prop) (e : TypeId) (z : Nat) (v : Value) (ds : List D) : Prop :=
  ∃ xs : List Value, w.ownsRow B e z v ds.length xs ∧ Cells w (fun g => ok g ∧ some g ≠ v.ownBlock) z ds xs

theorem Own.nil (w : World) (B : Nat) (ok : Nat → Prop) (e : TypeId) (z : Nat) : Own w B ok e z (.slice none 0 0) [] := ⟨[], ⟨by simp, .inl ⟨rfl, rfl⟩⟩, rfl⟩

section
variable {w w' : World} {B : Nat} {ok : Nat → Prop} {e : TypeId} {z : Nat} {v : Value} {ds : List D}
theorem Own.keep (h : Own w B ok e z v ds) (hk : ∀ g, g < w.heap.size → w'.heap[g]? = w.heap[g]?) : Own w' B ok e z v ds := by
  obtain ⟨xs, h1, h2⟩ := h
  refine ⟨xs, ⟨h1.1, ?_⟩, Cells.keep (fun _ h _ => h) (fun g _ hg => hk g hg) h2⟩
  rcases h1.2 with h3 | ⟨g, cap, cur, hv, hb, hh, hr⟩
  · exact .inl h3
  · exact .inr ⟨g, cap, cur, hv, hb, (hk g (lt_of_block hh)).trans hh, hr⟩
theorem Own.below (h : Own w B ok e z v ds) (hb : Below w.heap.size w w') : Own w' B ok e z v ds := h.keep fun g hg => hb.block g hg
theorem Own.alloc (h : Own w B ok e z v ds) (o : Obj) : Own (w.alloc o) B ok e z v ds := h.below (below_alloc _ _)
theorem Own.drew (h : Own w B ok e z v ds) : Own w.drew B ok e z v ds := h.keep (w' := w.drew) fun _ _ => rfl
theorem Own.drewN (h : Own w B ok e z v ds) (n : Nat) : Own (w.drewN n) B ok e z v ds := h.keep (w' := w.drewN n) fun _ _ => rfl
theorem Own.base {B' : Nat} (h : Own w B ok e z v ds) (hB : B' ≤ B) : Own w B' ok e z v ds := by
  obtain ⟨xs, h1, h2⟩ := h
  exact ⟨xs, own_base h1 hB, h2⟩
theorem Own.imp {ok' : Nat → Prop} (h : Own w B ok e z v ds) (hk : ∀ g, ok g → g < w.heap.size → ok' g) : Own w B ok' e z v ds := by
  obtain ⟨xs, h1, h2⟩ := h
  exact ⟨xs, h1, Cells.keep (fun g hg hl => ⟨hk g hg.1 hl, hg.2⟩) (fun _ _ _ => rfl) h2⟩
theorem Own.rep (h : Own w B ok e z v ds) : Rep w (fun g => ok g ∨ B ≤ g) (.lst z ds) [v] := by
  obtain ⟨xs, h1, h2⟩ := h
  unfold Rep
  rcases h1.2 with ⟨hv, hn⟩ | ⟨g, cap, cur, hv, hb, hh, hc, hm, hsz, ht⟩
  · exact ⟨none, 0, by rw [hv, hn], by omega, by simp, fun h => absurd h (by omega)⟩
  · refine ⟨some ⟨g, 0, none⟩, cap, by rw [hv], hc, hm, fun _ => ⟨g, 0, cur, e, (0, 0), rfl, .inr hb, hh, ?_⟩⟩
    have h3 : cur.toList.drop 0 = xs ++ cur.toList.drop (ds.length * z) := by
      rw [List.drop_zero, ← ht, List.take_append_drop]
    rw [h3]
    exact RepRow.keep (fun _ h _ => .inl h.1) (fun _ _ _ => rfl) z ds _ (h2.row _)
theorem Own.ne_far (h : Own w B ok e z v ds) {g : Nat} (hg : w.heap.size ≤ g) : some g ≠ v.ownBlock := by
  obtain ⟨xs, h1, _⟩ := h
  exact own_ne_far h1 hg
theorem Own.ge (h : Own w B ok e z v ds) : ∀ k, v.ownBlock = some k → B ≤ k := by
  obtain ⟨xs, h1, _⟩ := h
  exact own_block_ge h1
theorem Own.ne_blk {g : Nat} {t : TypeId} {cs : Array Value} (h : Own w B ok e z v ds) (hg : BlkIs w g t cs) (hne : e ≠ t) : some g ≠ v.ownBlock := by
  obtain ⟨xs, h1, _⟩ := h
  exact own_ne_blk h1 hg hne
end

theorem Cells.length {w : World} {ok : Nat → Prop} {z : Nat} : ∀ {ds : List D} {cs : List Value}, Cells w ok z ds cs → cs.length = ds.length * z
  | [], cs, h => by
    have h : cs = [] := h
    simp [h]
  | d :: ds, cs, h => by
    obtain ⟨a, b, rfl, hl, _, h2⟩ := h
    have := Cells.length h2
    simp only [List.length_append, List.length_cons, hl, this, Nat.add_mul]
    omega

/-- a slice that was written out -/
theorem Own.fresh {w : World} {B : Nat} {ok : Nat → Prop} {e : TypeId} {z : Nat} {ds : List D} {cs : List Value} (hc : Cells w ok z ds cs) (hB : B ≤ w.heap.size) (hn : ds.length ≤ maxLen) {g n : Nat} (hg : g = w.heap.size) (hl : n = ds.length) :
    Own (w.alloc (.cells cs.toArray e)) B ok e z (.slice (some ⟨g, 0, none⟩) n n) ds := by
  subst hg hl
  have hlen := hc.length
  refine ⟨cs, ⟨hlen, .inr ⟨w.heap.size, ds.length, cs.toArray, rfl, hB, heap_alloc_new w _, Nat.le_refl _, hn, by simpa using hlen, ?_⟩⟩, ?_⟩
  · rw [← hlen]; simp
  · refine Cells.keep (fun g hok hg => ⟨hok, ?_⟩) (fun g _ hg => Below.heap_alloc w _ g hg) hc
    intro h
    have : g = w.heap.size := by simpa [Value.ownBlock] using h
    omega

/-- one more at the end -/
theorem append_one {P : Program} {ops : Array Oper} {rest : List Oper} {o : Oper} {a : Act} {Q : Exit → Act → World → Prop} {w : World} (hgd : o.guard = none) (s x : Operand) (T e : TypeId) (z bytes : Nat) (zero : Value)
    (ho : o.op = .call { callee := .builtin .append, args := #[s, x], argTypes := #[T, T] })
    (hT : P.underlying T = some (.slice e)) (hi : (P.info? e).map (fun i => (i.zero, i.size, i.bytes)) = some (some zero, z, bytes)) (hzs : zero.cells.size = z) (hsz : 0 < z) (hb : bytes ≤ 1000)
    (B : Nat) (ok : Nat → Prop) (v : Value) (ds : List D) (hs : a.eval s = v) (g : Nat) (hx : a.eval x = .slice (some ⟨g, 0, none⟩) 1 1)
    (hown : Own w B ok e z v ds) (cs : List Value) (d : D) (hnew : BlkIs w g e cs.toArray) (hl : cs.length = z) (h1 : ∀ u ∈ cs, u.oneCell' = true)
    (hd : Rep w (fun k => ok k ∧ some k ≠ v.ownBlock) d cs) (hlen : ds.length ≤ 1000000000) (hB : B ≤ w.heap.size)
    (h : ∀ v' w', Own w' B ok e z v' (ds ++ [d]) → Below B w w' → (∀ k, some k ≠ v.ownBlock → k < w.heap.size → w'.heap[k]? = w.heap[k]?) → wpList P ops Q rest (a.put o.dst v') w') :
    wpList P ops Q (o :: rest) a w := by
  obtain ⟨i0, hi0, hz0, hz1, hz2⟩ := info_parts hi
  obtain ⟨xs, hrow, hcells⟩ := hown
  have hmul : (ds.length + 1) * bytes ≤ 140737488355328 := by
    have := Nat.mul_le_mul (show ds.length + 1 ≤ 1000000001 by omega) hb
    omega
  obtain ⟨v', w', hrun, h2, h3, _, h5⟩ := run_append_own_at (P := P) w B T o.type e i0 zero z bytes hT hi0 hz0 hz1 hz2 hzs hsz v ds.length xs hrow ⟨g, 0, none⟩ 1 1 cs (by rw [hl]; omega) (hnew.cells (by simp)) h1 (by unfold maxLen; omega) hmul hB
  refine wpList_plain hgd fun _ hK => ?_
  unfold Oper.wp execOp
  simp only [ho, resolve, invoke, builtin, Sem.run_bind, Sem.run_pure, Result.andThen_ok, List.map_toArray, List.map_cons, List.map_nil, hs, hx, hrun]
  refine hK _ _ (h v' w' ⟨xs ++ cs, by rw [List.length_append]; exact h2, ?_⟩ ((Below.refl _ _).grown h3 hB (own_block_ge hrow)) (fun k hk hlt => h3.block k hlt hk))
  have hkeep : ∀ k, some k ≠ v.ownBlock → k < w.heap.size → w'.heap[k]? = w.heap[k]? := fun k hk hlt => h3.block k hlt hk
  have hok : ∀ k, ok k ∧ some k ≠ v.ownBlock → k < w.heap.size → ok k ∧ some k ≠ v'.ownBlock := by
    intro k hk hlt
    refine ⟨hk.1, ?_⟩
    rcases h5 with h5 | h5
    · rw [h5]; exact hk.2
    · rw [h5]; intro e; injection e with e; omega
  exact Cells.snoc hl (Rep.keep hok (fun k hk => hkeep k hk.2) d cs hd) (Cells.keep hok (fun k hk => hkeep k hk.2) hcells)

mutual
theorem Rep.one {w : World} {ok : Nat → Prop} : ∀ (d : D) (cs : List Value), Rep w ok d cs → ∀ u ∈ cs, u.oneCell' = true
  | .int _ _, _, hr => by unfold Rep at hr; subst hr; simp [Value.oneCell']
  | .bool _, _, hr => by unfold Rep at hr; subst hr; simp [Value.oneCell']
  | .str _, _, hr => by unfold Rep at hr; subst hr; simp [Value.oneCell']
  | .st fs, cs, hr => by unfold Rep at hr; exact RepAll.one fs cs hr
  | .lst z xs, cs, hr => by
    unfold Rep at hr
    obtain ⟨A, c, rfl, _⟩ := hr
    simp [Value.oneCell']
theorem RepAll.one {w : World} {ok : Nat → Prop} : ∀ (ds : List D) (cs : List Value), RepAll w ok ds cs → ∀ u ∈ cs, u.oneCell' = true
  | [], _, hr => by unfold RepAll at hr; subst hr; simp
  | d :: ds, cs, hr => by
    unfold RepAll at hr
    obtain ⟨a, b, rfl, h1, h2⟩ := hr
    intro u hu
    rcases List.mem_append.1 hu with hu | hu
    · exact Rep.one d a h1 u hu
    · exact RepAll.one ds b h2 u hu
end

theorem Cells.one {w : World} {ok : Nat → Prop} {z : Nat} : ∀ {ds : List D} {cs : List Value}, Cells w ok z ds cs → ∀ u ∈ cs, u.oneCell' = true
  | [], cs, h => by
    have h : cs = [] := h
    subst h; simp
  | d :: ds, cs, h => by
    obtain ⟨a, b, rfl, _, h1, h2⟩ := h
    intro u hu
    rcases List.mem_append.1 hu with hu | hu
    · exact Rep.one d a h1 u hu
    · exact Cells.one h2 u hu

theorem Cells.append {w : World} {ok : Nat → Prop} {z : Nat} {es : List D} {ys : List Value} (h : Cells w ok z es ys) : ∀ {ds : List D} {cs : List Value}, Cells w ok z ds cs → Cells w ok z (ds ++ es) (cs ++ ys)
  | [], cs, h0 => by
    have h0 : cs = [] := h0
    subst h0; simpa using h
  | d :: ds, cs, h0 => by
    obtain ⟨a, b, rfl, h1, h2, h3⟩ := h0
    exact ⟨a, b ++ ys, by rw [List.append_assoc], h1, h2, Cells.append h h3⟩

/-- all of another slice at the end -/
theorem append_all {P : Program} {ops : Array Oper} {rest : List Oper} {o : Oper} {a : Act} {Q : Exit → Act → World → Prop} {w : World} (hgd : o.guard = none) (s x : Operand) (T e : TypeId) (z bytes : Nat) (zero : Value)
    (ho : o.op = .call { callee := .builtin .append, args := #[s, x], argTypes := #[T, T] })
    (hT : P.underlying T = some (.slice e)) (hi : (P.info? e).map (fun i => (i.zero, i.size, i.bytes)) = some (some zero, z, bytes)) (hzs : zero.cells.size = z) (hsz : 0 < z) (hb : bytes ≤ 1000)
    (B : Nat) (ok : Nat → Prop) (v : Value) (ds : List D) (hs : a.eval s = v) (v2 : Value) (hx : a.eval x = v2)
    (hown : Own w B ok e z v ds) (B2 : Nat) (ok2 : Nat → Prop) (es : List D) (hsrc : Own w B2 ok2 e z v2 es) (hok2 : ∀ k, ok2 k → ok k ∧ some k ≠ v.ownBlock)
    (hlen : ds.length + es.length ≤ 1000000000) (hB : B ≤ w.heap.size)
    (h : ∀ v' w', Own w' B ok e z v' (ds ++ es) → Below B w w' → (∀ k, some k ≠ v.ownBlock → k < w.heap.size → w'.heap[k]? = w.heap[k]?) → wpList P ops Q rest (a.put o.dst v') w') :
    wpList P ops Q (o :: rest) a w := by
  obtain ⟨i0, hi0, hz0, hz1, hz2⟩ := info_parts hi
  obtain ⟨xs, hrow, hcells⟩ := hown
  obtain ⟨ys, hrow2, hcells2⟩ := hsrc
  rcases hrow2.2 with ⟨hv2, hn2⟩ | ⟨g2, cap2, cur2, hv2, _, hh2, hc2, _, hs2, ht2⟩
  · have hes : es = [] := List.eq_nil_of_length_eq_zero hn2
    subst hes
    refine wpList_plain hgd fun _ hK => ?_
    have hrun : (Builtin.append_ #[T, T] o.type #[v, .slice none 0 0]).run P w = .ok v w := by
      rcases hrow.2 with ⟨rfl, _⟩ | ⟨g, cap, cur, rfl, _, _, hnc, _⟩
      · simp [Builtin.append_, run_underlying hT, sizeOf, typeInfo, hi0, Builtin.lenOf, Builtin.firstCells]
      · simp [Builtin.append_, run_underlying hT, sizeOf, typeInfo, hi0, Builtin.lenOf, Builtin.firstCells, hnc, storeCells]
    unfold Oper.wp execOp
    simp only [ho, resolve, invoke, builtin, Sem.run_bind, Sem.run_pure, Result.andThen_ok, List.map_toArray, List.map_cons, List.map_nil, hs, hx, hv2, hrun]
    exact hK _ _ (h v w ⟨xs, by simpa using hrow, by simpa using hcells⟩ (Below.refl _ _) (fun _ _ _ => rfl))
  · have hmul : (ds.length + es.length) * bytes ≤ 140737488355328 := by
      have := Nat.mul_le_mul hlen hb
      omega
    have hnews : ∀ j u, ys[j]? = some u → w.cell? ((⟨g2, 0, none⟩ : Addr).add j) = some u := by
      intro j u hu
      have e1 : (⟨g2, 0, none⟩ : Addr).add j = ⟨g2, j, none⟩ := by
        unfold Addr.add
        split
        · rename_i h0; rw [h0]
        · simp
      rw [e1, cell_of_row w g2 j cur2 e (0, 0) hh2]
      have h1 : j < ys.length := (List.getElem?_eq_some_iff.1 hu).1
      rw [← ht2] at hu h1
      rw [List.getElem?_take] at hu
      split at hu
      · simpa using hu
      · cases hu
    obtain ⟨v', w', hrun, h2, h3, _, h5⟩ := run_append_own_at (P := P) w B T o.type e i0 zero z bytes hT hi0 hz0 hz1 hz2 hzs hsz v ds.length xs hrow ⟨g2, 0, none⟩ es.length cap2 ys hrow2.1 hnews (Cells.one hcells2) (by unfold maxLen; omega) hmul hB
    refine wpList_plain hgd fun _ hK => ?_
    unfold Oper.wp execOp
    simp only [ho, resolve, invoke, builtin, Sem.run_bind, Sem.run_pure, Result.andThen_ok, List.map_toArray, List.map_cons, List.map_nil, hs, hx, hv2, hrun]
    have hkeep : ∀ k, some k ≠ v.ownBlock → k < w.heap.size → w'.heap[k]? = w.heap[k]? := fun k hk hlt => h3.block k hlt hk
    have hok : ∀ k, ok k ∧ some k ≠ v.ownBlock → k < w.heap.size → ok k ∧ some k ≠ v'.ownBlock := by
      intro k hk hlt
      refine ⟨hk.1, ?_⟩
      rcases h5 with h5 | h5
      · rw [h5]; exact hk.2
      · rw [h5]; intro e; injection e with e; omega
    refine hK _ _ (h v' w' ⟨xs ++ ys, by rw [List.length_append]; exact h2, ?_⟩ ((Below.refl _ _).grown h3 hB (own_block_ge hrow)) hkeep)
    exact Cells.append (Cells.keep (fun k hk hlt => hok k (hok2 k hk.1) hlt) (fun k hk => hkeep k (hok2 k hk.1).2) hcells2) (Cells.keep hok (fun k hk => hkeep k hk.2) hcells)

end

/- What comes in reads as data: a reading of the form is a datum in memory. -/
section
open Go.RowKit Go.ChangeShapes Go.WideShapes

mutual
/-- a datum is of a type -/
def HasTy (P : Program) : D → TypeId → Prop
  | .int k n, t => P.underlying t = some (.int k) ∧ (Lit.int k n).wf = true
  | .bool _, t => P.underlying t = some .bool
  | .str s, t => P.underlying t = some .string ∧ s.length ≤ reachBytes
  | .st ds, t => ∃ fs : Array Field, P.underlying t = some (.struct fs) ∧ HasTys P ds (fs.toList.map (·.type))
  | .lst z ds, t => ∃ e, P.underlying t = some (.slice e) ∧ z = P.cellsOf e ∧ ds.length * P.bytesOf e ≤ reachBytes ∧ AllTy P ds e
def HasTys (P : Program) : List D → List TypeId → Prop
  | [], ts => ts = []
  | d :: ds, ts => ∃ t r, ts = t :: r ∧ HasTy P d t ∧ HasTys P ds r
def AllTy (P : Program) : List D → TypeId → Prop
  | [], _ => True
  | d :: ds, e => HasTy P d e ∧ AllTy P ds e
end

/-- fields that lie one behind the other, from a place on, up to a size -/
def inLine (P : Program) : List Field → Nat → Nat → Bool
  | [], at_, size => at_ == size
  | f :: fs, at_, size => f.offset == at_ && inLine P fs (at_ + P.cellsOf f.type) size

/-- types that the reading below can go through: numbers, truth values, texts, structs and slices of these -/
def plainTy (P : Program) (S : List TypeId) (t : TypeId) : Bool :=
  match P.underlying t with
  | some (.int _) => P.cellsOf t == 1
  | some .bool => P.cellsOf t == 1
  | some .string => P.cellsOf t == 1
  | some (.struct fs) => inLine P fs.toList 0 (P.cellsOf t) && fs.toList.all (fun f => S.contains f.type)
  | some (.slice e) => P.cellsOf t == 1 && S.contains e && decide (0 < P.cellsOf e)
  | _ => false

theorem RepRow.of {w : World} {ok : Nat → Prop} {z : Nat} : ∀ (ds : List D) (cs : List Value), (∀ i (h : i < ds.length), ∃ a : List Value, a.length = z ∧ Rep w ok ds[i] a ∧ ∀ j, j < z → cs[i * z + j]? = a[j]?) → RepRow w ok z ds cs
  | [], _, _ => by unfold RepRow; exact trivial
  | d :: ds, cs, h => by
    unfold RepRow
    obtain ⟨a, h1, h2, h3⟩ := h 0 (by simp)
    have e : cs.take z = a := by
      apply List.ext_getElem?
      intro j
      rw [List.getElem?_take]
      by_cases hj : j < z
      · rw [if_pos hj]
        have := h3 j hj
        simpa using this
      · rw [if_neg hj, List.getElem?_eq_none (by omega)]
    refine ⟨a, cs.drop z, by rw [← e, List.take_append_drop], h1, h2, RepRow.of ds _ fun i hi => ?_⟩
    obtain ⟨a', h4, h5, h6⟩ := h (i + 1) (by simpa using hi)
    refine ⟨a', h4, by simpa using h5, fun j hj => ?_⟩
    rw [List.getElem?_drop, ← h6 j hj]
    congr 1
    rw [Nat.add_mul]; omega

theorem exists_list {Q : Nat → D → Prop} : ∀ n : Nat, (∀ i, i < n → ∃ d, Q i d) → ∃ ds : List D, ds.length = n ∧ ∀ i (h : i < ds.length), Q i ds[i]
  | 0, _ => ⟨[], rfl, fun i h => absurd h (by simp)⟩
  | n + 1, h => by
    obtain ⟨ds, h1, h2⟩ := exists_list n fun i hi => h i (by omega)
    obtain ⟨d, hd⟩ := h n (by omega)
    refine ⟨ds ++ [d], by simp [h1], fun i hi => ?_⟩
    by_cases hin : i < ds.length
    · rw [List.getElem_append_left hin]; exact h2 i hin
    · have : i = n := by simp at hi; omega
      subst this
      rw [List.getElem_append_right (by omega)]
      simpa [h1] using hd

theorem allTy_of {P : Program} {e : TypeId} : ∀ ds : List D, (∀ i (h : i < ds.length), HasTy P ds[i] e) → AllTy P ds e
  | [], _ => by unfold AllTy; trivial
  | d :: ds, h => by
    unfold AllTy
    exact ⟨h 0 (by simp), allTy_of ds fun i hi => by have := h (i + 1) (by simpa using hi); simpa using this⟩

theorem add_of_add' (a : Addr) (i j : Nat) : (a.add i).add j = a.add (i + j) := by
  unfold Addr.add
  by_cases hi : i = 0 <;> by_cases hj : j = 0 <;> simp [hi, hj, Nat.add_assoc]

section
variable {H : Type} {enc : TypeId × Value → H} {P : Program} {w : World} {base : Nat} {spare : Nat → Bool} {held : Bool}

/-- no text, no slice that is longer than memory bears -/
def Light (P : Program) (t : TypeId) (x : DataW H) : Prop := ∀ n ∈ x.weights P t, n ≤ reachBytes

theorem light_all {e : TypeId} : ∀ (l : List (DataW H)), (∀ n ∈ DataW.weightsAll P e l, n ≤ reachBytes) → ∀ d ∈ l, Light P e d
  | d :: r, h, d', hd => by
    unfold DataW.weightsAll at h
    rcases List.mem_cons.1 hd with rfl | hd
    · exact fun n hn => h n (List.mem_append_left _ hn)
    · exact light_all r (fun n hn => h n (List.mem_append_right _ hn)) d' hd
theorem light_each : ∀ (ts : List TypeId) (l : List (DataW H)), (∀ n ∈ DataW.weightsEach P ts l, n ≤ reachBytes) → ∀ (i : Nat) t d, ts[i]? = some t → l[i]? = some d → Light P t d
  | [], _, _, i, t, d, ht, _ => by simp at ht
  | _ :: _, [], _, i, t, d, _, hd => by simp at hd
  | t0 :: ts, d0 :: r, h, 0, t, d, ht, hd => by
    unfold DataW.weightsEach at h
    simp only [List.getElem?_cons_zero, Option.some.injEq] at ht hd
    subst ht hd
    exact fun n hn => h n (List.mem_append_left _ hn)
  | t0 :: ts, d0 :: r, h, i + 1, t, d, ht, hd => by
    unfold DataW.weightsEach at h
    exact light_each ts r (fun n hn => h n (List.mem_append_right _ hn)) i t d (by simpa using ht) (by simpa using hd)

theorem rep_fields {S : List TypeId} {n : Nat} (ih : ∀ t cs x, S.contains t = true → Light P t x.1 → DataW.trod enc P w base spare held n t cs = some x → ∃ d, Rep w (fun _ => True) d cs ∧ HasTy P d t ∧ cs.length = P.cellsOf t) :
    ∀ (fs : List Field) (at_ size : Nat) (cs : List Value), inLine P fs at_ size = true → cs.length = size → at_ ≤ size → fs.all (fun f => S.contains f.type) = true →
      (∀ (f : Field), f ∈ fs → ∃ y, Light P f.type y.1 ∧ DataW.trod enc P w base spare held n f.type ((cs.drop f.offset).take (P.cellsOf f.type)) = some y) →
      ∃ ds, RepAll w (fun _ => True) ds (cs.drop at_) ∧ HasTys P ds (fs.map (·.type))
  | [], at_, size, cs, hl, hs, _, _, _ => by
    unfold inLine at hl
    have : at_ = size := by simpa using hl
    refine ⟨[], ?_, ?_⟩
    · unfold RepAll
      rw [this, ← hs, List.drop_length]
    · unfold HasTys; rfl
  | f :: fs, at_, size, cs, hl, hs, hat, ha, hf => by
    unfold inLine at hl
    simp only [Bool.and_eq_true, beq_iff_eq] at hl
    simp only [List.all_cons, Bool.and_eq_true] at ha
    obtain ⟨y, hly, hy⟩ := hf f (by simp)
    obtain ⟨d, h1, h2, h3⟩ := ih _ _ _ ha.1 hly hy
    rw [hl.1] at h1 h3
    have h4 : P.cellsOf f.type ≤ size - at_ := by
      rw [List.length_take, List.length_drop] at h3
      omega
    obtain ⟨ds, h5, h6⟩ := rep_fields ih fs (at_ + P.cellsOf f.type) size cs hl.2 hs (by omega) ha.2 (fun g hg => hf g (by simp [hg]))
    refine ⟨d :: ds, ?_, ?_⟩
    · unfold RepAll
      refine ⟨_, _, ?_, h1, h5⟩
      rw [← List.drop_drop, List.take_append_drop]
    · unfold HasTys
      exact ⟨_, _, rfl, h2, h6⟩

theorem rep_of_trod {S : List TypeId} (hS : S.all (plainTy P S) = true) : ∀ (fuel : Nat) (t : TypeId) (cs : List Value) (x : DataW H × List MemPlace),
    S.contains t = true → Light P t x.1 → DataW.trod enc P w base spare held fuel t cs = some x → ∃ d, Rep w (fun _ => True) d cs ∧ HasTy P d t ∧ cs.length = P.cellsOf t
  | 0, t, cs, x, _, _, h => by simp [DataW.trod] at h
  | n + 1, t, cs, x, ht, hw, h => by
    have hp : plainTy P S t = true := List.all_eq_true.1 hS t (by simpa using ht)
    unfold plainTy at hp
    split at hp
    · rename_i k hu
      obtain ⟨m, rfl, _, hw⟩ := DataW.trod_int hu h
      exact ⟨.int k m, by unfold Rep; rfl, by unfold HasTy; exact ⟨hu, hw⟩, by simpa using (beq_iff_eq.1 hp).symm⟩
    · rename_i hu
      obtain ⟨b, rfl, _⟩ := DataW.trod_bool hu h
      exact ⟨.bool b, by unfold Rep; rfl, by unfold HasTy; exact hu, by simpa using (beq_iff_eq.1 hp).symm⟩
    · rename_i hu
      obtain ⟨s, rfl, rfl, hs⟩ := DataW.trod_string hu h
      exact ⟨.str s.data.toList, by unfold Rep; rfl, by unfold HasTy; exact ⟨hu, hw _ (by simp [DataW.weights])⟩, by simpa using (beq_iff_eq.1 hp).symm⟩
    · rename_i fs hu
      simp only [Bool.and_eq_true] at hp
      obtain ⟨xs, m, hm, rfl, hlen, hxl, hf⟩ := DataW.trod_struct hu h
      have hm : n = m := by omega
      subst hm
      have hw2 : ∀ n ∈ DataW.weightsEach P (fs.toList.map (·.type)) (xs.map (·.1)), n ≤ reachBytes := fun k hk => hw k (by simp only [DataW.weights, hu]; exact hk)
      obtain ⟨ds, h1, h2⟩ := rep_fields (fun t cs x ht hl h => rep_of_trod hS n t cs x ht hl h) fs.toList 0 (P.cellsOf t) cs hp.1 hlen (Nat.zero_le _) hp.2 (fun f hfm => by
        obtain ⟨i, hi, hfi⟩ := List.getElem_of_mem hfm
        have hi' : i < fs.size := by simpa using hi
        have e : fs[i]? = some f := by rw [Array.getElem?_eq_getElem hi']; simpa using hfi
        have hx : i < xs.length := by omega
        exact ⟨xs[i], light_each _ _ hw2 i f.type xs[i].1 (by rw [List.getElem?_map, Array.getElem?_toList, e]; rfl) (by rw [List.getElem?_map, List.getElem?_eq_getElem hx]; rfl), by rw [hf i f e, List.getElem?_eq_getElem hx]⟩)
      exact ⟨.st ds, by unfold Rep; simpa using h1, by unfold HasTy; exact ⟨fs, hu, h2⟩, hlen⟩
    · rename_i e hu
      simp only [Bool.and_eq_true, beq_iff_eq, decide_eq_true_eq] at hp
      obtain ⟨⟨hc1, he⟩, hz⟩ := hp
      rcases DataW.trod_slice hu h with ⟨rfl, _⟩ | ⟨a, len, cap, elems, rest, m, hm, rfl, rfl, _, hlc, hcm, hel, hrow, _, _⟩
      · exact ⟨.lst (P.cellsOf e) [], by unfold Rep; exact ⟨none, 0, rfl, by simp, by simp, fun h => absurd h (by simp)⟩, by unfold HasTy; exact ⟨e, hu, rfl, by simp, by unfold AllTy; trivial⟩, by simpa using hc1.symm⟩
      · have hm : n = m := by omega
        subst hm
        have hw1 : (elems.length + rest.length) * P.bytesOf e ≤ reachBytes := hw _ (by simp [DataW.weights, hu])
        have hw2 : ∀ n ∈ DataW.weightsAll P e (elems.map (·.1)), n ≤ reachBytes := fun k hk => hw k (by simp only [DataW.weights, hu]; exact List.mem_cons_of_mem _ (List.mem_append_left _ hk))
        obtain ⟨ds, hdl, hds⟩ := exists_list (Q := fun i d => HasTy P d e ∧ ∃ ai : List Value, ai.length = P.cellsOf e ∧ Rep w (fun _ => True) d ai ∧ ∀ j, j < P.cellsOf e → w.cell? (a.add (i * P.cellsOf e + j)) = ai[j]?) len (fun i hi => by
          have h1 := hrow i hi
          rw [List.getElem?_eq_getElem (by omega : i < elems.length)] at h1
          obtain ⟨ci, h2, h3⟩ := Option.bind_eq_some_iff.1 h1
          obtain ⟨_, h4, h5⟩ := World.cells?_some h2
          obtain ⟨d, h6, h7, _⟩ := rep_of_trod hS n e ci _ he (light_all _ hw2 _ (List.mem_map_of_mem (List.getElem_mem _))) h3
          exact ⟨d, h7, ci, h4, h6, fun j hj => by rw [← add_of_add']; exact h5 j hj⟩)
        refine ⟨.lst (P.cellsOf e) ds, ?_, ?_, by simpa using hc1.symm⟩
        · unfold Rep
          refine ⟨some a, cap, by rw [hdl], by omega, by omega, fun hn => ?_⟩
          obtain ⟨_, a0, hl0, _, hc0⟩ := hds 0 hn
          have h0 := hc0 0 hz
          rw [Nat.zero_mul, Nat.zero_add, show a.add 0 = a by simp [Addr.add], List.getElem?_eq_getElem (by omega)] at h0
          obtain ⟨b, off, spot⟩ := a
          have hsp : spot = none := World.cell?_spot h0
          subst hsp
          unfold World.cell? at h0
          split at h0
          · rename_i cur te fr hh
            refine ⟨b, off, cur, te, fr, rfl, trivial, hh, RepRow.of ds _ fun i hi => ?_⟩
            obtain ⟨_, ai, h1, h2, h3⟩ := hds i hi
            refine ⟨ai, h1, h2, fun j hj => ?_⟩
            rw [← h3 j hj, List.getElem?_drop]
            have e1 : (⟨b, off, none⟩ : Addr).add (i * P.cellsOf e + j) = ⟨b, off + (i * P.cellsOf e + j), none⟩ := by
              unfold Addr.add
              split
              · rename_i h; rw [h]; simp
              · rfl
            rw [e1, cell_of_row w b _ cur te fr hh]
            simp
          · cases h0
        · unfold HasTy
          exact ⟨e, hu, rfl, by rw [hdl, ← hel]; exact Nat.le_trans (Nat.mul_le_mul_right _ (Nat.le_add_right _ _)) hw1, allTy_of ds fun i hi => (hds i hi).1⟩
    · cases hp
end

end

/- Patterns and rules as data; their makers walked. -/
section
open Go.RowKit

/-- a rule's pattern -/
inductive Pat where
  | mk (op nt : Int) (kids : List Pat)
structure Rule where
  nt : Int
  pat : Pat
  cost : Int
  form : List UInt8

def encP : Pat → D
  | .mk op nt kids => .st [.int .i64 op, .int .i64 nt, .lst 3 (encPs kids)]
where encPs : List Pat → List D
  | [] => []
  | p :: ps => encP p :: encPs ps

def encR (r : Rule) : D := .st [.int .i64 r.nt, encP r.pat, .int .i64 r.cost, .str r.form]

set_option maxHeartbeats 400000 in
theorem refN_any (k : Int) (w : World) :
    Calls Tryd.prog 42 #[.int .i64 k] w fun e w' => e = .returned (.agg #[.int .i64 0, .int .i64 k, .slice none 0 0]) ∧ w.alloc (.cells #[.int .i64 0, .int .i64 k, .slice none 0 0] 31) = w' := by
  go_enter Tryd.func42, Tryd.ntmps42
  go_wp2
  exact bodyPost_ret (v := .agg #[.int .i64 0, .int .i64 k, .slice none 0 0]) (by simp [results, Tryd.results42, go_sem]) rfl ⟨rfl, rfl⟩

set_option maxHeartbeats 400000 in
theorem refO_any (k : Int) (A : Option Addr) (n c : Nat) (w : World) :
    Calls Tryd.prog 43 #[.int .i64 k, .slice A n c] w fun e w' => e = .returned (.agg #[.int .i64 k, .int .i64 0, .slice A n c]) ∧ w.alloc (.cells #[.int .i64 k, .int .i64 0, .slice A n c] 31) = w' := by
  go_enter Tryd.func43, Tryd.ntmps43
  go_wp2
  exact bodyPost_ret (v := .agg #[.int .i64 k, .int .i64 0, .slice A n c]) (by simp [results, Tryd.results43, go_sem]) rfl ⟨rfl, rfl⟩

set_option maxHeartbeats 400000 in
theorem nt_any (k : Int) (w : World) :
    Calls Tryd.prog 80 #[.int .i64 k] w fun e w' => e = .returned (.agg #[.int .i64 0, .int .i64 k, .slice none 0 0]) ∧ w.alloc (.cells #[.int .i64 0, .int .i64 k, .slice none 0 0] 31) = w' := by
  go_enter Tryd.func80, Tryd.ntmps80
  go_wp2
  exact bodyPost_ret (v := .agg #[.int .i64 0, .int .i64 k, .slice none 0 0]) (by simp [results, Tryd.results80, go_sem]) rfl ⟨rfl, rfl⟩

set_option maxHeartbeats 400000 in
theorem op_any (k : Int) (A : Option Addr) (n c : Nat) (w : World) :
    Calls Tryd.prog 114 #[.int .i64 k, .slice A n c] w fun e w' => e = .returned (.agg #[.int .i64 k, .int .i64 0, .slice A n c]) ∧ w.alloc (.cells #[.int .i64 k, .int .i64 0, .slice A n c] 31) = w' := by
  go_enter Tryd.func114, Tryd.ntmps114
  go_wp2
  exact bodyPost_ret (v := .agg #[.int .i64 k, .int .i64 0, .slice A n c]) (by simp [results, Tryd.results114, go_sem]) rfl ⟨rfl, rfl⟩

set_option maxHeartbeats 400000 in
theorem reg_any (s : ByteArray) (k : Int) (A : Option Addr) (n c : Nat) (w : World) :
    Calls Tryd.prog 79 #[.string s, .int .i64 k, .slice A n c] w fun e w' => e = .returned (.agg #[.int .i64 0, .int .i64 k, .int .i64 0, .slice A n c, .int .i64 0, .string s]) ∧ (w.alloc (.cells #[.int .i64 0, .int .i64 k, .int .i64 0, .slice A n c, .int .i64 0, .string s] 33)).alloc (.cells #[.int .i64 k, .int .i64 0, .slice A n c] 31) = w' := by
  go_enter Tryd.func79, Tryd.ntmps79
  go_wp2_with (go_at_call 114; refine (op_any _ _ _ _ _).mono ?_; rintro e w1 ⟨rfl, rfl⟩)
  exact bodyPost_ret (v := .agg #[.int .i64 0, .int .i64 k, .int .i64 0, .slice A n c, .int .i64 0, .string s]) (by simp [results, Tryd.results79, go_sem]) rfl ⟨rfl, rfl⟩

def pN (n : Int) : Pat := .mk 0 n []
def pO (op : Int) (kids : List Pat) : Pat := .mk op 0 kids

theorem rep_pat {w : World} {ok : Nat → Prop} {op nt : Int} {kids : List Pat} {v : Value} (h : Rep w ok (.lst 3 (encP.encPs kids)) [v]) : Rep w ok (encP (.mk op nt kids)) [.int .i64 op, .int .i64 nt, v] := by
  unfold encP Rep RepAll
  refine ⟨[_], [_, _], rfl, by unfold Rep; rfl, ?_⟩
  unfold RepAll
  refine ⟨[_], [_], rfl, by unfold Rep; rfl, ?_⟩
  unfold RepAll
  exact ⟨[_], [], rfl, h, by unfold RepAll; rfl⟩

theorem rep_nil {w : World} {ok : Nat → Prop} {z : Nat} : Rep w ok (.lst z []) [.slice none 0 0] := by
  unfold Rep
  exact ⟨none, 0, rfl, Nat.le_refl _, by simp, fun h => absurd h (by simp)⟩

theorem rep_leaf {w : World} {ok : Nat → Prop} {op nt : Int} : Rep w ok (encP (.mk op nt [])) [.int .i64 op, .int .i64 nt, .slice none 0 0] := rep_pat rep_nil

theorem rep_rule {w : World} {ok : Nat → Prop} {nt cost : Int} {p : Pat} {form : List UInt8} {a b c : Value} (h : Rep w ok (encP p) [a, b, c]) : Rep w ok (encR ⟨nt, p, cost, form⟩) [.int .i64 nt, a, b, c, .int .i64 cost, .string ⟨form.toArray⟩] := by
  unfold encR Rep RepAll
  refine ⟨[_], [a, b, c, _, _], rfl, by unfold Rep; rfl, ?_⟩
  unfold RepAll
  refine ⟨[a, b, c], [_, _], rfl, h, ?_⟩
  unfold RepAll
  refine ⟨[_], [_], rfl, by unfold Rep; rfl, ?_⟩
  unfold RepAll
  exact ⟨[_], [], rfl, by unfold Rep; rfl, by unfold RepAll; rfl⟩

end

/- The rules that are no op's. -/
section
open Go.RowKit

def fewR : List Rule := [⟨0, pN 1, 0, [108, 105]⟩, ⟨2, pO 1 [], 0, [102, 105, 116]⟩, ⟨1, pO 1 [], 0, [97, 110, 121]⟩, ⟨1, pN 2, 0, [117, 112]⟩,
  ⟨0, pO 2 [], 0, [116, 109, 112]⟩, ⟨0, pO 3 [], 0, [108, 111, 99]⟩, ⟨0, pO 4 [], 0, [103, 108, 111]⟩, ⟨3, pN 0, 0, [98, 97, 115, 101]⟩, ⟨3, pO 12 [pN 0, pN 2], 0, [111, 102, 102]⟩]

/-- a slice of rules of the call's own -/
def Rules (B : Nat) (w : World) (rs : List Rule) (e : Ending) (w' : World) : Prop := ∃ v, e = .returned v ∧ Own w' B (fun g => B ≤ g) 33 6 v (rs.map encR) ∧ Below w.heap.size w w'

set_option maxHeartbeats 1000000 in
theorem few_any (w : World) : Calls Tryd.prog 84 #[] w (Rules w.heap.size w fewR) := by
  go_enter Tryd.func84, Tryd.ntmps84
  go_wp2_with (first | (go_at_call 114; refine (op_any _ _ _ _ _).mono ?_; rintro e w1 ⟨rfl, rfl⟩) | (go_at_call 80; refine (nt_any _ _).mono ?_; rintro e w1 ⟨rfl, rfl⟩))
  go_ret
  refine ⟨_, rfl, ?_, ?_⟩
  · refine Own.fresh (ds := fewR.map encR) ?_ (by simp; omega) (by decide) (by simp) rfl
    refine ⟨[_, _, _, _, _, _], _, rfl, rfl, rep_rule rep_leaf, ?_⟩
    refine ⟨[_, _, _, _, _, _], _, rfl, rfl, rep_rule rep_leaf, ?_⟩
    refine ⟨[_, _, _, _, _, _], _, rfl, rfl, rep_rule rep_leaf, ?_⟩
    refine ⟨[_, _, _, _, _, _], _, rfl, rfl, rep_rule rep_leaf, ?_⟩
    refine ⟨[_, _, _, _, _, _], _, rfl, rfl, rep_rule rep_leaf, ?_⟩
    refine ⟨[_, _, _, _, _, _], _, rfl, rfl, rep_rule rep_leaf, ?_⟩
    refine ⟨[_, _, _, _, _, _], _, rfl, rfl, rep_rule rep_leaf, ?_⟩
    refine ⟨[_, _, _, _, _, _], _, rfl, rfl, rep_rule rep_leaf, ?_⟩
    refine ⟨[_, _, _, _, _, _], [], rfl, rfl, rep_rule (rep_pat ?_), rfl⟩
    refine Rep.alloc (Rep.imp (Own.rep (Own.fresh (B := w.heap.size) (ok := fun g => w.heap.size ≤ g) (ds := encP.encPs [pN 0, pN 2]) ?_ (by simp; omega) (by decide) (by simp) rfl)) (fun g hg _ => hg.elim id id)) _
    exact ⟨[_, _, _], [_, _, _], rfl, rfl, rep_leaf, ⟨[_, _, _], [], rfl, rfl, rep_leaf, rfl⟩⟩
  · repeat (first | exact Below.refl _ _ | refine Below.alloc ?_ (by (try simp); try omega) _)

end

/- The rules of an op: of two, of one, of an address. -/
section
open Go.RowKit

def twoR (n : Int) (w : List UInt8) : List Rule := [⟨0, pO n [pN 0, pN 0], 0, w⟩, ⟨0, pO n [pN 0, pN 2], 0, w ++ [105]⟩]
def oneR (n : Int) (w : List UInt8) : List Rule := [⟨0, pO n [pN 0], 0, w⟩]
def loadR (n : Int) (w : List UInt8) : List Rule := [⟨0, pO n [pN 3], 0, w⟩]

theorem str_i (s : ByteArray) : (s ++ ⟨#[105]⟩ : ByteArray) = ⟨(s.data.toList ++ [105]).toArray⟩ := by
  apply ByteArray.ext
  rw [← Array.toList_inj]
  simp

theorem kids2 {w : World} {B : Nat} (hB : B ≤ w.heap.size) {k : Int} {m : Int} (o o' : Obj) {g : Nat} (hg : g = w.heap.size) : Rep (((w.alloc (.cells #[.int .i64 0, .int .i64 k, .slice none 0 0, .int .i64 0, .int .i64 m, .slice none 0 0] 31)).alloc o).alloc o') (fun g => B ≤ g) (.lst 3 (encP.encPs [pN k, pN m])) [.slice (some ⟨g, 0, none⟩) 2 2] := by
  refine Rep.alloc (Rep.alloc (Rep.imp (Own.rep (Own.fresh (B := B) (ok := fun g => B ≤ g) (ds := encP.encPs [pN k, pN m]) (cs := [.int .i64 0, .int .i64 k, .slice none 0 0, .int .i64 0, .int .i64 m, .slice none 0 0]) ?_ hB (by simp [encP.encPs, maxLen]) hg rfl)) (fun g hg _ => hg.elim id id)) _) _
  exact ⟨[_, _, _], [_, _, _], rfl, rfl, rep_leaf, ⟨[_, _, _], [], rfl, rfl, rep_leaf, rfl⟩⟩

theorem kids1 {w : World} {B : Nat} (hB : B ≤ w.heap.size) {k : Int} (o o' : Obj) {g : Nat} (hg : g = w.heap.size) : Rep (((w.alloc (.cells #[.int .i64 0, .int .i64 k, .slice none 0 0] 31)).alloc o).alloc o') (fun g => B ≤ g) (.lst 3 (encP.encPs [pN k])) [.slice (some ⟨g, 0, none⟩) 1 1] := by
  refine Rep.alloc (Rep.alloc (Rep.imp (Own.rep (Own.fresh (B := B) (ok := fun g => B ≤ g) (ds := encP.encPs [pN k]) (cs := [.int .i64 0, .int .i64 k, .slice none 0 0]) ?_ hB (by simp [encP.encPs, maxLen]) hg rfl)) (fun g hg _ => hg.elim id id)) _) _
  exact ⟨[_, _, _], [], rfl, rfl, rep_leaf, rfl⟩

set_option maxHeartbeats 1000000 in
theorem one_any (n : Int) (s : ByteArray) (w : World) : Calls Tryd.prog 81 #[.int .i64 n, .string s] w (Rules w.heap.size w (oneR n s.data.toList)) := by
  go_enter Tryd.func81, Tryd.ntmps81
  go_wp2_with (first | (go_at_call 79; refine (reg_any _ _ _ _ _ _).mono ?_; rintro e w1 ⟨rfl, rfl⟩) | (go_at_call 80; refine (nt_any _ _).mono ?_; rintro e w1 ⟨rfl, rfl⟩))
  go_ret
  refine ⟨_, rfl, ?_, ?_⟩
  · refine Own.fresh (ds := (oneR n s.data.toList).map encR) ?_ (by simp; omega) (by simp [oneR, maxLen]) (by simp) rfl
    exact ⟨[_, _, _, _, _, _], [], rfl, rfl, rep_rule (rep_pat (kids1 (by (try simp); try omega) _ _ (by simp))), rfl⟩
  · repeat (first | exact Below.refl _ _ | refine Below.alloc ?_ (by (try simp); try omega) _)

set_option maxHeartbeats 1000000 in
theorem load_any (n : Int) (s : ByteArray) (w : World) : Calls Tryd.prog 82 #[.int .i64 n, .string s] w (Rules w.heap.size w (loadR n s.data.toList)) := by
  go_enter Tryd.func82, Tryd.ntmps82
  go_wp2_with (first | (go_at_call 79; refine (reg_any _ _ _ _ _ _).mono ?_; rintro e w1 ⟨rfl, rfl⟩) | (go_at_call 80; refine (nt_any _ _).mono ?_; rintro e w1 ⟨rfl, rfl⟩))
  go_ret
  refine ⟨_, rfl, ?_, ?_⟩
  · refine Own.fresh (ds := (loadR n s.data.toList).map encR) ?_ (by simp; omega) (by simp [loadR, maxLen]) (by simp) rfl
    exact ⟨[_, _, _, _, _, _], [], rfl, rfl, rep_rule (rep_pat (kids1 (by (try simp); try omega) _ _ (by simp))), rfl⟩
  · repeat (first | exact Below.refl _ _ | refine Below.alloc ?_ (by (try simp); try omega) _)

set_option maxHeartbeats 1000000 in
theorem two_any (n : Int) (s : ByteArray) (hs : s.size ≤ 1000) (w : World) : Calls Tryd.prog 78 #[.int .i64 n, .string s] w (Rules w.heap.size w (twoR n s.data.toList)) := by
  go_enter Tryd.func78, Tryd.ntmps78
  go_wp2_with (first | (go_at_call 79; refine (reg_any _ _ _ _ _ _).mono ?_; rintro e w1 ⟨rfl, rfl⟩) | (go_at_call 80; refine (nt_any _ _).mono ?_; rintro e w1 ⟨rfl, rfl⟩))
  rw [str_i]
  go_ret
  refine ⟨_, rfl, ?_, ?_⟩
  · refine Own.fresh (ds := (twoR n s.data.toList).map encR) ?_ (by simp; omega) (by simp [twoR, maxLen]) (by simp) rfl
    refine ⟨[_, _, _, _, _, _], _, rfl, rfl, rep_rule (rep_pat (Rep.alloc (Rep.alloc (Rep.alloc (Rep.alloc (Rep.alloc (kids2 (by (try simp); try omega) _ _ (by simp)) _) _) _) _) _)), ⟨[_, _, _, _, _, _], [], rfl, rfl, rep_rule (rep_pat (kids2 (by (try simp); try omega) _ _ (by simp))), rfl⟩⟩
  · repeat (first | exact Below.refl _ _ | refine Below.alloc ?_ (by (try simp); try omega) _)

end

/- The ops' words, and which ops are of two, of one, loads. -/
section
open Go.RowKit

theorem ret_bool {a b : Bool} (h : a = b) : Ending.returned (.bool a) = .returned (.bool b) := by rw [h]
def strCells (l : List (List UInt8)) : List Value := l.map fun x => .string ⟨x.toArray⟩
def opWords : List (List UInt8) := [[99, 111, 110], [116, 109, 112], [108, 111, 99], [103, 108, 111], [108, 111, 97, 100, 56], [108, 111, 97, 100, 49, 54], [108, 111, 97, 100, 51, 50], [108, 111, 97, 100, 54, 52], [108, 111, 97, 100, 117, 56], [108, 111, 97, 100, 117, 49, 54], [108, 111, 97, 100, 117, 51, 50], [97, 100, 100], [115, 117, 98], [109, 117, 108], [100, 105, 118], [100, 105, 118, 117], [114, 101, 109], [114, 101, 109, 117], [97, 110, 100], [111, 114], [120, 111, 114], [115, 104, 108], [115, 104, 114], [115, 97, 114], [101, 113], [110, 101], [108, 116], [108, 116, 117], [108, 101], [108, 101, 117], [101, 120, 116, 56], [101, 120, 116, 49, 54], [101, 120, 116, 51, 50], [122, 101, 120, 116, 56], [122, 101, 120, 116, 49, 54], [122, 101, 120, 116, 51, 50]]
def opText : List UInt8 := [99, 111, 110, 32, 116, 109, 112, 32, 108, 111, 99, 32, 103, 108, 111, 32, 108, 111, 97, 100, 56, 32, 108, 111, 97, 100, 49, 54, 32, 108, 111, 97, 100, 51, 50, 32, 108, 111, 97, 100, 54, 52, 32, 108, 111, 97, 100, 117, 56, 32, 108, 111, 97, 100, 117, 49, 54, 32, 108, 111, 97, 100, 117, 51, 50, 32, 97, 100, 100, 32, 115, 117, 98, 32, 109, 117, 108, 32, 100, 105, 118, 32, 100, 105, 118, 117, 32, 114, 101, 109, 32, 114, 101, 109, 117, 32, 97, 110, 100, 32, 111, 114, 32, 120, 111, 114, 32, 115, 104, 108, 32, 115, 104, 114, 32, 115, 97, 114, 32, 101, 113, 32, 110, 101, 32, 108, 116, 32, 108, 116, 117, 32, 108, 101, 32, 108, 101, 117, 32, 101, 120, 116, 56, 32, 101, 120, 116, 49, 54, 32, 101, 120, 116, 51, 50, 32, 122, 101, 120, 116, 56, 32, 122, 101, 120, 116, 49, 54, 32, 122, 101, 120, 116, 51, 50]

theorem opText_fields : Lib.fields opText = opWords := by kernel_rfl

theorem opText_ascii (j : Nat) (b : UInt8) (h : opText[j]? = some b) : b.toNat < 128 := by
  have h1 : (opText.all fun b => decide (b.toNat < 128)) = true := by kernel_rfl
  simpa using List.all_eq_true.1 h1 b (List.mem_of_getElem? h)
theorem opText_size : (ByteArray.mk opText.toArray).size < 4294967281 := by
  have h1 : decide (opText.length < 4294967281) = true := by kernel_rfl
  have h2 : (ByteArray.mk opText.toArray).size = opText.length := by simp [ByteArray.size]
  rw [h2]
  exact of_decide_eq_true h1

/-- the library's table of blanks, as the row lays it -/
abbrev Tab (w : World) : Prop := Lib.TabIs Tryd.prog w "strings.asciiSpace" .u8 Lib.asciiSpaceTab

def isBin (n : Int) : Bool := decide (12 ≤ n) && decide (n ≤ 30)
def isUn (n : Int) : Bool := decide (31 ≤ n) && decide (n ≤ 36)
def isLoad (n : Int) : Bool := decide (5 ≤ n) && decide (n ≤ 11)

set_option maxHeartbeats 400000 in
theorem binary_any (n : Int) (w : World) : Calls Tryd.prog 86 #[.int .i64 n] w fun e w' => e = .returned (.bool (isBin n)) ∧ w = w' := by
  go_enter Tryd.func86, Tryd.ntmps86
  go_wp2
  all_goals
    go_ret
    refine ⟨ret_bool ?_, rfl⟩
    grind [isBin]

set_option maxHeartbeats 400000 in
theorem unary_any (n : Int) (w : World) : Calls Tryd.prog 87 #[.int .i64 n] w fun e w' => e = .returned (.bool (isUn n)) ∧ w = w' := by
  go_enter Tryd.func87, Tryd.ntmps87
  go_wp2
  all_goals
    go_ret
    refine ⟨ret_bool ?_, rfl⟩
    grind [isUn]

set_option maxHeartbeats 400000 in
theorem loadp_any (n : Int) (w : World) : Calls Tryd.prog 88 #[.int .i64 n] w fun e w' => e = .returned (.bool (isLoad n)) ∧ w = w' := by
  go_enter Tryd.func88, Tryd.ntmps88
  go_wp2
  all_goals
    go_ret
    refine ⟨ret_bool ?_, rfl⟩
    grind [isLoad]

set_option maxHeartbeats 400000 in
theorem opWords_any (w : World) (ht : Tab w) :
    Calls Tryd.prog 116 #[] w fun e w' => e = .returned (.slice (some ⟨w.heap.size, 0, none⟩) 36 36) ∧ w.alloc (.cells (strCells opWords).toArray 9) = w' := by
  have HF := Lib.hid opText_fields
  go_enter Tryd.func116, Tryd.ntmps116
  go_wp2_with fail
  refine (Tryd.strings_Fields_laid ⟨opText.toArray⟩ _ opText_size opText_ascii ht).mono ?_
  rintro e w' ⟨rfl, rfl⟩
  rw [show Lib.fields (ByteArray.mk opText.toArray).data.toList = opWords from HF.out]
  go_wp2_with fail
  go_ret
  exact ⟨rfl, rfl⟩

end

/- rule.by: the rules of the ops that are so. -/
section
open Go.RowKit

def byTo (is_ : Int → Bool) (rules : Int → List UInt8 → List Rule) (k : Nat) : List Rule := (List.range k).flatMap fun (i : Nat) => if is_ (1 + (i : Int)) then rules (1 + (i : Int)) (opWords.getD i []) else []

theorem byTo_succ (is_ : Int → Bool) (rules : Int → List UInt8 → List Rule) (k : Nat) : byTo is_ rules (k + 1) = byTo is_ rules k ++ (if is_ (1 + (k : Int)) then rules (1 + (k : Int)) (opWords.getD k []) else []) := by
  simp [byTo, List.range_succ]

theorem opWords_at (k : Nat) (h : k < 36) : (strCells opWords).toArray[k]? = some (.string ⟨(opWords.getD k []).toArray⟩) := by
  have h1 : k < opWords.length := h
  simp [strCells, List.getD_eq_getElem?_getD, h1]

theorem opWords_le (k : Nat) : (opWords.getD k []).length ≤ 1000 := by
  have h1 : (opWords.all fun x => decide (x.length ≤ 1000)) = true := by kernel_rfl
  rw [List.getD_eq_getElem?_getD]
  by_cases h : k < opWords.length
  · rw [List.getElem?_eq_getElem h]
    simpa using List.all_eq_true.1 h1 _ (List.getElem_mem h)
  · rw [List.getElem?_eq_none (by omega)]; simp

theorem rule_info : (Tryd.prog.info? 33).map (fun i => (i.zero, i.size, i.bytes)) = some (some (.agg #[.int .i64 0, .int .i64 0, .int .i64 0, .slice none 0 0, .int .i64 0, .string ⟨#[]⟩]), 6, 72) := by kernel_rfl

set_option maxRecDepth 100000 in
set_option maxHeartbeats 1000000 in
theorem byTwo_any (w : World) (ht : Tab w) : Calls Tryd.prog 85 #[.func (.func 86) #[] #[], .func (.func 78) #[] #[]] w (Rules w.heap.size w (byTo isBin twoR 36)) := by
  go_enter Tryd.func85, Tryd.ntmps85
  go_wp2_with (go_at_call 116; refine (opWords_any _ ht).mono ?_; rintro e w1 ⟨rfl, rfl⟩)
  go_loopw [4, 10] (fun v i wr => ∃ k : Nat, k ≤ 36 ∧ i = .int .i64 k ∧ Own wr w.heap.size (fun g => w.heap.size ≤ g) 33 6 v ((byTo isBin twoR k).map encR) ∧ (byTo isBin twoR k).length ≤ 2 * k ∧ Below w.heap.size w wr ∧ BlkIs wr w.heap.size 9 (strCells opWords).toArray) (fun _ i _ => 36 - (intOf i).toNat)
  case atStart => exact ⟨0, by omega, rfl, Own.nil _ _ _ _ _, by simp [byTo], below_alloc _ _, BlkIs.fresh _ _ _⟩
  case round =>
    obtain ⟨k, hk, rfl, hown, hlen, hb, hbk⟩ := hrel
    obtain ⟨wo, rfl⟩ : ∃ wo : World, wo = wr := ⟨_, rfl⟩
    have hbz := hbk.lt
    by_cases hlt : k < 36
    · have hc : wo.cell? ⟨w.heap.size, k, none⟩ = some (.string ⟨(opWords.getD k []).toArray⟩) := by rw [hbk.cell, opWords_at k hlt]
      obtain ⟨x, hx⟩ : ∃ x, Hid (opWords.getD k [] = x) := ⟨_, Lib.hid rfl⟩
      have hxl : x.length ≤ 1000 := by rw [← hx.out]; exact opWords_le k
      rw [hx.out] at hc
      have hs := Lib.hid (byTo_succ isBin twoR k)
      by_cases hi : isBin (1 + (k : Int)) = true
      · go_wp2_with (first | (go_at_call 86; refine (binary_any _ _).mono ?_; rintro e w1 ⟨rfl, rfl⟩) | (go_at_call 78; refine (two_any _ ⟨x.toArray⟩ (by simp [ByteArray.size]; omega) _).mono ?_; rintro e w1 ⟨v1, rfl, hown1, hb1⟩) | (at_builtin; go_must (refine append_all rfl (.tmp 20) (.tmp 24) 26 33 6 72 _ rfl Tryd.underlying26 rule_info rfl (by decide) (by decide) w.heap.size (fun g => w.heap.size ≤ g) _ _ rfl v1 rfl (hown.below hb1) wo.heap.size (fun g => wo.heap.size ≤ g) _ hown1 (fun g hg => ⟨by omega, hown.ne_far hg⟩) (by simp [twoR]; omega) (by have := hb1.size; omega) ?_); intro v2 w2 hown2 hb2 hk2))
        have hbk1 := hbk.below hb1 hbz
        have hbk2 : BlkIs w2 w.heap.size 9 (strCells opWords).toArray := (hk2 _ (hown.ne_blk hbk (by decide)) hbk1.lt).trans hbk1
        go_roundw
        case rel => exact ⟨k + 1, by omega, by go_num, by rw [hs.out, if_pos hi, hx.out, List.map_append]; exact hown2, by rw [hs.out, if_pos hi]; simp [twoR]; omega, (hb.trans (hb1.mono (by omega))).trans hb2, hbk2⟩
        case measure => simp [intOf]; omega
      · have hi : isBin (1 + (k : Int)) = false := by simpa using hi
        go_wp2_with (go_at_call 86; refine (binary_any _ _).mono ?_; rintro e w1 ⟨rfl, rfl⟩)
        go_roundw
        case rel => exact ⟨k + 1, by omega, by go_num, by rw [hs.out, hi]; simpa using hown, by rw [hs.out, hi]; simp; omega, hb, hbk⟩
        case measure => simp [intOf]; omega
    · obtain rfl : k = 36 := by omega
      go_wp2_with fail
      go_ret
      exact ⟨_, rfl, hown, hb⟩

set_option maxRecDepth 100000 in
set_option maxHeartbeats 1000000 in
theorem byOne_any (w : World) (ht : Tab w) : Calls Tryd.prog 85 #[.func (.func 87) #[] #[], .func (.func 81) #[] #[]] w (Rules w.heap.size w (byTo isUn oneR 36)) := by
  go_enter Tryd.func85, Tryd.ntmps85
  go_wp2_with (go_at_call 116; refine (opWords_any _ ht).mono ?_; rintro e w1 ⟨rfl, rfl⟩)
  go_loopw [4, 10] (fun v i wr => ∃ k : Nat, k ≤ 36 ∧ i = .int .i64 k ∧ Own wr w.heap.size (fun g => w.heap.size ≤ g) 33 6 v ((byTo isUn oneR k).map encR) ∧ (byTo isUn oneR k).length ≤ 2 * k ∧ Below w.heap.size w wr ∧ BlkIs wr w.heap.size 9 (strCells opWords).toArray) (fun _ i _ => 36 - (intOf i).toNat)
  case atStart => exact ⟨0, by omega, rfl, Own.nil _ _ _ _ _, by simp [byTo], below_alloc _ _, BlkIs.fresh _ _ _⟩
  case round =>
    obtain ⟨k, hk, rfl, hown, hlen, hb, hbk⟩ := hrel
    obtain ⟨wo, rfl⟩ : ∃ wo : World, wo = wr := ⟨_, rfl⟩
    have hbz := hbk.lt
    by_cases hlt : k < 36
    · have hc : wo.cell? ⟨w.heap.size, k, none⟩ = some (.string ⟨(opWords.getD k []).toArray⟩) := by rw [hbk.cell, opWords_at k hlt]
      obtain ⟨x, hx⟩ : ∃ x, Hid (opWords.getD k [] = x) := ⟨_, Lib.hid rfl⟩
      have hxl : x.length ≤ 1000 := by rw [← hx.out]; exact opWords_le k
      rw [hx.out] at hc
      have hs := Lib.hid (byTo_succ isUn oneR k)
      by_cases hi : isUn (1 + (k : Int)) = true
      · go_wp2_with (first | (go_at_call 87; refine (unary_any _ _).mono ?_; rintro e w1 ⟨rfl, rfl⟩) | (go_at_call 81; refine (one_any _ ⟨x.toArray⟩ _).mono ?_; rintro e w1 ⟨v1, rfl, hown1, hb1⟩) | (at_builtin; go_must (refine append_all rfl (.tmp 20) (.tmp 24) 26 33 6 72 _ rfl Tryd.underlying26 rule_info rfl (by decide) (by decide) w.heap.size (fun g => w.heap.size ≤ g) _ _ rfl v1 rfl (hown.below hb1) wo.heap.size (fun g => wo.heap.size ≤ g) _ hown1 (fun g hg => ⟨by omega, hown.ne_far hg⟩) (by simp [oneR]; omega) (by have := hb1.size; omega) ?_); intro v2 w2 hown2 hb2 hk2))
        have hbk1 := hbk.below hb1 hbz
        have hbk2 : BlkIs w2 w.heap.size 9 (strCells opWords).toArray := (hk2 _ (hown.ne_blk hbk (by decide)) hbk1.lt).trans hbk1
        go_roundw
        case rel => exact ⟨k + 1, by omega, by go_num, by rw [hs.out, if_pos hi, hx.out, List.map_append]; exact hown2, by rw [hs.out, if_pos hi]; simp [oneR]; omega, (hb.trans (hb1.mono (by omega))).trans hb2, hbk2⟩
        case measure => simp [intOf]; omega
      · have hi : isUn (1 + (k : Int)) = false := by simpa using hi
        go_wp2_with (go_at_call 87; refine (unary_any _ _).mono ?_; rintro e w1 ⟨rfl, rfl⟩)
        go_roundw
        case rel => exact ⟨k + 1, by omega, by go_num, by rw [hs.out, hi]; simpa using hown, by rw [hs.out, hi]; simp; omega, hb, hbk⟩
        case measure => simp [intOf]; omega
    · obtain rfl : k = 36 := by omega
      go_wp2_with fail
      go_ret
      exact ⟨_, rfl, hown, hb⟩

set_option maxRecDepth 100000 in
set_option maxHeartbeats 1000000 in
theorem byLoad_any (w : World) (ht : Tab w) : Calls Tryd.prog 85 #[.func (.func 88) #[] #[], .func (.func 82) #[] #[]] w (Rules w.heap.size w (byTo isLoad loadR 36)) := by
  go_enter Tryd.func85, Tryd.ntmps85
  go_wp2_with (go_at_call 116; refine (opWords_any _ ht).mono ?_; rintro e w1 ⟨rfl, rfl⟩)
  go_loopw [4, 10] (fun v i wr => ∃ k : Nat, k ≤ 36 ∧ i = .int .i64 k ∧ Own wr w.heap.size (fun g => w.heap.size ≤ g) 33 6 v ((byTo isLoad loadR k).map encR) ∧ (byTo isLoad loadR k).length ≤ 2 * k ∧ Below w.heap.size w wr ∧ BlkIs wr w.heap.size 9 (strCells opWords).toArray) (fun _ i _ => 36 - (intOf i).toNat)
  case atStart => exact ⟨0, by omega, rfl, Own.nil _ _ _ _ _, by simp [byTo], below_alloc _ _, BlkIs.fresh _ _ _⟩
  case round =>
    obtain ⟨k, hk, rfl, hown, hlen, hb, hbk⟩ := hrel
    obtain ⟨wo, rfl⟩ : ∃ wo : World, wo = wr := ⟨_, rfl⟩
    have hbz := hbk.lt
    by_cases hlt : k < 36
    · have hc : wo.cell? ⟨w.heap.size, k, none⟩ = some (.string ⟨(opWords.getD k []).toArray⟩) := by rw [hbk.cell, opWords_at k hlt]
      obtain ⟨x, hx⟩ : ∃ x, Hid (opWords.getD k [] = x) := ⟨_, Lib.hid rfl⟩
      have hxl : x.length ≤ 1000 := by rw [← hx.out]; exact opWords_le k
      rw [hx.out] at hc
      have hs := Lib.hid (byTo_succ isLoad loadR k)
      by_cases hi : isLoad (1 + (k : Int)) = true
      · go_wp2_with (first | (go_at_call 88; refine (loadp_any _ _).mono ?_; rintro e w1 ⟨rfl, rfl⟩) | (go_at_call 82; refine (load_any _ ⟨x.toArray⟩ _).mono ?_; rintro e w1 ⟨v1, rfl, hown1, hb1⟩) | (at_builtin; go_must (refine append_all rfl (.tmp 20) (.tmp 24) 26 33 6 72 _ rfl Tryd.underlying26 rule_info rfl (by decide) (by decide) w.heap.size (fun g => w.heap.size ≤ g) _ _ rfl v1 rfl (hown.below hb1) wo.heap.size (fun g => wo.heap.size ≤ g) _ hown1 (fun g hg => ⟨by omega, hown.ne_far hg⟩) (by simp [loadR]; omega) (by have := hb1.size; omega) ?_); intro v2 w2 hown2 hb2 hk2))
        have hbk1 := hbk.below hb1 hbz
        have hbk2 : BlkIs w2 w.heap.size 9 (strCells opWords).toArray := (hk2 _ (hown.ne_blk hbk (by decide)) hbk1.lt).trans hbk1
        go_roundw
        case rel => exact ⟨k + 1, by omega, by go_num, by rw [hs.out, if_pos hi, hx.out, List.map_append]; exact hown2, by rw [hs.out, if_pos hi]; simp [loadR]; omega, (hb.trans (hb1.mono (by omega))).trans hb2, hbk2⟩
        case measure => simp [intOf]; omega
      · have hi : isLoad (1 + (k : Int)) = false := by simpa using hi
        go_wp2_with (go_at_call 88; refine (loadp_any _ _).mono ?_; rintro e w1 ⟨rfl, rfl⟩)
        go_roundw
        case rel => exact ⟨k + 1, by omega, by go_num, by rw [hs.out, hi]; simpa using hown, by rw [hs.out, hi]; simp; omega, hb, hbk⟩
        case measure => simp [intOf]; omega
    · obtain rfl : k = 36 := by omega
      go_wp2_with fail
      go_ret
      exact ⟨_, rfl, hown, hb⟩

end

/- slices.Grow at no rules yet. -/
section
open Go.RowKit

theorem zeros_size (z : Array Value) (n : Nat) : (Builtin.zeroCells z n).size = n * z.size := by
  simp [Builtin.zeroCells]

def growCells (n G : Nat) : Array Value := Builtin.zeroCells (Value.agg #[.int .i64 0, .int .i64 0, .int .i64 0, .slice none 0 0, .int .i64 0, .string ⟨#[]⟩]).cells n ++ Builtin.zeroCells (Value.agg #[.int .i64 0, .int .i64 0, .int .i64 0, .slice none 0 0, .int .i64 0, .string ⟨#[]⟩]).cells (G - n)
theorem growCells_size (n G : Nat) (h : n ≤ G) : (growCells n G).size = G * 6 := by
  unfold growCells
  rw [Array.size_append, zeros_size, zeros_size]
  simp [Value.cells]
  omega

set_option maxRecDepth 100000 in
set_option maxHeartbeats 2000000 in
theorem grow_nil (n : Nat) (hn0 : 0 < n) (hn : n ≤ 100000) (w : World) :
    Calls Tryd.prog 115 #[.slice none 0 0, .int .i64 n] w fun e w' => ∃ v, e = .returned v ∧ Own w' w.heap.size (fun g => w.heap.size ≤ g) 33 6 v [] ∧ Below w.heap.size w w' := by
  obtain ⟨i0, hi0, hz0, hz1, hz2⟩ := info_parts rule_info
  have hG1 := grownCap_ge w n 0 33
  have hG2 := grownCap_le_maxLen w n 0 33 (by unfold maxLen; omega)
  have hrz : ∀ ty, (Builtin.append_ #[26, 3] ty #[.slice none 0 0, .int .i64 (n : Int)]).run Tryd.prog w =
      .ok (.slice (some ⟨w.heap.size, 0, none⟩) n (grownCap w n 0 33)) (w.drew.alloc (.cells (growCells n (grownCap w n 0 33)) 33)) := by
    intro ty
    have h := Lib.run_append_grow_zeros w 26 3 ty 33 i0 _ .i64 .i64 Tryd.underlying26 Tryd.underlying3 hi0 hz0 none 0 0 [] (run_firstCells_none w.drew i0.size 0 0 0) n hn0 (by omega) (by omega) (by omega) (by rw [hz2]; omega) (growslice_fits (by omega) (by rw [hz2]; omega))
    simp only [Nat.zero_add] at h
    rw [h]
    simp [growCells]
  have hsz := growCells_size n _ hG1
  generalize grownCap w n 0 33 = G at *
  obtain ⟨C, hC⟩ : ∃ C, growCells n G = C := ⟨_, rfl⟩
  rw [hC] at hsz hrz
  have hG63 : G ≤ 9223372036854775807 := by unfold maxLen at hG2; exact hG2
  have HS := Lib.hid hsz
  clear hC hsz
  go_enter Tryd.func115, Tryd.ntmps115
  go_wp2_with (at_builtin; refine Lib.wpList_append_run _ rfl _ _ _ _ rfl _ _ rfl rfl _ _ (hrz _) ?_)
  go_ret
  refine ⟨_, rfl, ⟨[], ⟨rfl, .inr ⟨w.heap.size, G, C, rfl, Nat.le_refl _, ?_, Nat.zero_le _, hG2, HS.out, by simp⟩⟩, rfl⟩, ?_⟩
  · exact heap_alloc_new w (.cells C 33)
  · exact Below.drew (below_alloc w (.cells C 33))

end

/- slices.Concat of slices of rules. -/
section
open Go.RowKit

def total (L : List (List D)) : Nat := (L.map List.length).sum
theorem total_take (L : List (List D)) (k : Nat) (h : k < L.length) : total (L.take (k + 1)) = total (L.take k) + (L[k]).length := by
  unfold total
  rw [List.take_succ_eq_append_getElem h, List.map_append, List.sum_append]
  simp only [List.map_cons, List.map_nil, List.sum_cons, List.sum_nil, Nat.add_zero]
theorem total_app (L M : List (List D)) : total (L ++ M) = total L + total M := by
  unfold total
  rw [List.map_append, List.sum_append]
theorem total_le (L : List (List D)) (k : Nat) : total (L.take k) ≤ total L := by
  have := total_app (L.take k) (L.drop k)
  rw [List.take_append_drop] at this
  omega
theorem total_flat (L : List (List D)) : L.flatten.length = total L := by
  unfold total
  rw [List.length_flatten]

set_option maxRecDepth 100000 in
set_option maxHeartbeats 2000000 in
theorem concat_any (L : List (List D)) (vs : Array Value) (g : Nat) (B : Nat) (ok : Nat → Prop) (w : World) (hg : BlkIs w g 26 vs) (hvl : vs.size = L.length) (hL : L.length ≤ 1000)
    (hv : ∀ i (h : i < L.length), ∃ v, vs[i]? = some v ∧ Own w B ok 33 6 v L[i]) (h0 : 0 < total L) (ht : total L ≤ 100000) :
    Calls Tryd.prog 83 #[.slice (some ⟨g, 0, none⟩) L.length L.length] w fun e w' => ∃ v, e = .returned v ∧ Own w' w.heap.size ok 33 6 v L.flatten ∧ Below w.heap.size w w' := by
  go_enter Tryd.func83, Tryd.ntmps83
  go_wp2_with fail
  go_loop [3, 5, 11] (fun s _ i => ∃ k : Nat, k ≤ L.length ∧ i = .int .i64 k ∧ s = .int .i64 (total (L.take k) : Nat)) (fun _ _ i => L.length - (intOf i).toNat)
  case atStart => exact ⟨0, by omega, rfl, by simp [total]⟩
  case round =>
    obtain ⟨k, hk, rfl, rfl⟩ := hrel
    have hle := total_le L k
    by_cases hlt : k < L.length
    · obtain ⟨v, hvk, hown⟩ := hv k hlt
      obtain ⟨A, c, rfl, _⟩ := hown.rep.len
      have hc : w.cell? ⟨g, k, none⟩ = some (.slice A (L[k]).length c) := by rw [hg.cell, hvk]
      have htk := total_take L k hlt
      have hle2 := total_le L (k + 1)
      obtain ⟨m, hm⟩ : ∃ m, Hid ((L[k]).length = m) := ⟨_, Lib.hid rfl⟩
      rw [hm.out] at hc htk
      have HT := Lib.hid htk
      have hm2 : total (L.take k) + m ≤ 100000 := by omega
      clear htk hown hvk hv
      go_wp2_with fail
      go_round
      case rel => exact ⟨k + 1, by omega, by go_num, by rw [HT.out]; go_num⟩
      case measure => simp [intOf]; omega
    · obtain rfl : k = L.length := by omega
      rw [List.take_length]
      clear hle hlt hk
      go_wp2_with fail
      refine (grow_nil (total L) h0 ht w).mono ?_
      rintro e w1 ⟨v1, rfl, hown1, hb1⟩
      go_wp2_with fail
      go_loopw [6, 8, 27] (fun v _ i wr => ∃ k : Nat, k ≤ L.length ∧ i = .int .i64 k ∧ Own wr w.heap.size ok 33 6 v (L.take k).flatten ∧ Below w.heap.size w wr) (fun _ _ i _ => L.length - (intOf i).toNat)
      case atStart => exact ⟨0, by omega, rfl, by obtain ⟨xs, h1, h2⟩ := hown1; exact ⟨xs, h1, h2⟩, hb1⟩
      case round =>
        obtain ⟨k, hk, rfl, hown, hb⟩ := hrel
        obtain ⟨wo, rfl⟩ : ∃ wo : World, wo = wr := ⟨_, rfl⟩
        by_cases hlt : k < L.length
        · obtain ⟨v, hvk, hsrc⟩ := hv k hlt
          obtain ⟨A, c, rfl, _⟩ := hsrc.rep.len
          have hc : wo.cell? ⟨g, k, none⟩ = some (.slice A (L[k]).length c) := by rw [hb.cell (by exact hg.lt), hg.cell, hvk]
          have hle := total_le L k
          have hfl := total_flat (L.take k)
          have htk := total_take L k hlt
          have hle2 := total_le L (k + 1)
          have hfs : Hid ((L.take (k + 1)).flatten = (L.take k).flatten ++ L[k]) := by
            refine Lib.hid ?_
            rw [List.take_succ_eq_append_getElem hlt, List.flatten_append]
            simp only [List.flatten_cons, List.flatten_nil, List.append_nil]
          have hlim : (L.take k).flatten.length + (L[k]).length ≤ 1000000000 := by omega
          have hsrc2 : Own wo B (fun q => ok q ∧ q < w.heap.size) 33 6 (.slice A (L[k]).length c) L[k] := (hsrc.imp (ok' := fun q => ok q ∧ q < w.heap.size) (fun q hq hl => ⟨hq, hl⟩)).below hb
          clear hvk hsrc hv htk hle2 hle hfl
          go_wp2_with (at_builtin; go_must (refine append_all rfl (.tmp 31) (.tmp 32) 26 33 6 72 _ rfl Tryd.underlying26 rule_info rfl (by decide) (by decide) w.heap.size ok _ _ rfl _ rfl hown B (fun q => ok q ∧ q < w.heap.size) L[k] hsrc2 (fun q hq => ⟨hq.1, fun e => absurd (hown.ge q e.symm) (by omega)⟩) hlim hb.size ?_); intro v2 w2 hown2 hb2 hk2)
          go_roundw
          case rel => exact ⟨k + 1, by omega, by go_num, by rw [hfs.out]; exact hown2, hb.trans hb2⟩
          case measure => simp [intOf]; omega
        · obtain rfl : k = L.length := by omega
          rw [List.take_length] at hown
          go_wp2_with fail
          go_ret
          exact ⟨_, rfl, hown, hb⟩

end

/- rule.forms walked. -/
section
open Go.RowKit

def formsR : List Rule := fewR ++ (byTo isBin twoR 36 ++ (byTo isUn oneR 36 ++ byTo isLoad loadR 36))
theorem formsR_len : formsR.length = 60 := by kernel_rfl

theorem tab_global : ∃ g, Tryd.prog.globalNamed "strings.asciiSpace" = some g := by
  have h : (Tryd.prog.globalNamed "strings.asciiSpace").isSome = true := by kernel_rfl
  exact Option.isSome_iff_exists.1 h
theorem tab_alloc {w : World} (h : Tab w) (w' : World) (hb : Below w.heap.size w w') : Tab w' := by
  obtain ⟨g, hg⟩ := tab_global
  have hc := Lib.TabIs.cell h hg 0 (of_decide_eq_true (by kernel_rfl))
  have hlt := World.block_lt_of_cell? _ _ hc
  exact var?_below hb hg hlt h

set_option maxRecDepth 100000 in
set_option maxHeartbeats 2000000 in
theorem forms_any (w : World) (ht : Tab w) : Calls Tryd.prog 45 #[] w fun e w' => ∃ v, e = .returned v ∧ Own w' w.heap.size (fun g => w.heap.size ≤ g) 33 6 v (formsR.map encR) ∧ Below w.heap.size w w' := by
  go_enter Tryd.func45, Tryd.ntmps45
  go_wp2_with fail
  refine (few_any _).mono ?_
  rintro e w1 ⟨v1, rfl, ho1, hb1⟩
  obtain ⟨A1, c1, rfl, _⟩ := ho1.rep.len
  go_wp2_with fail
  refine (byTwo_any _ (tab_alloc ht _ hb1)).mono ?_
  rintro e w2 ⟨v2, rfl, ho2, hb2⟩
  obtain ⟨A2, c2, rfl, _⟩ := ho2.rep.len
  go_wp2_with fail
  have hb02 : Below w.heap.size w w2 := hb1.trans (hb2.mono hb1.size)
  refine (byOne_any _ (tab_alloc ht _ hb02)).mono ?_
  rintro e w3 ⟨v3, rfl, ho3, hb3⟩
  obtain ⟨A3, c3, rfl, _⟩ := ho3.rep.len
  go_wp2_with fail
  have hb03 : Below w.heap.size w w3 := hb02.trans (hb3.mono hb02.size)
  refine (byLoad_any _ (tab_alloc ht _ hb03)).mono ?_
  rintro e w4 ⟨v4, rfl, ho4, hb4⟩
  obtain ⟨A4, c4, rfl, _⟩ := ho4.rep.len
  have hb04 : Below w.heap.size w w4 := hb03.trans (hb4.mono hb03.size)
  go_wp2_with fail
  have hW : Below w4.heap.size w4 (w4.alloc (.cells #[.slice A1 fewR.length c1, .slice A2 (byTo isBin twoR 36).length c2, .slice A3 (byTo isUn oneR 36).length c3, .slice A4 (byTo isLoad loadR 36).length c4] 26)) := below_alloc _ _
  have o1 := ((((ho1.below hb2).below hb3).below hb4).below hW).base (B' := 0) (Nat.zero_le _)
  have o2 := (((ho2.below hb3).below hb4).below hW).base (B' := 0) (Nat.zero_le _)
  have o3 := ((ho3.below hb4).below hW).base (B' := 0) (Nat.zero_le _)
  have o4 := (ho4.below hW).base (B' := 0) (Nat.zero_le _)
  simp only [List.length_map] at o1 o2 o3 o4
  refine (concat_any [fewR.map encR, (byTo isBin twoR 36).map encR, (byTo isUn oneR 36).map encR, (byTo isLoad loadR 36).map encR] _ w4.heap.size 0 (fun g => w.heap.size ≤ g) _ (BlkIs.fresh _ _ _) rfl (by simp) ?_ ?_ ?_).mono ?_
  · intro i hi
    match i, hi with
    | 0, _ => exact ⟨_, rfl, o1⟩
    | 1, _ => exact ⟨_, rfl, o2.imp (fun g hg _ => Nat.le_trans hb1.size hg)⟩
    | 2, _ => exact ⟨_, rfl, o3.imp (fun g hg _ => Nat.le_trans hb02.size hg)⟩
    | 3, _ => exact ⟨_, rfl, o4.imp (fun g hg _ => Nat.le_trans hb03.size hg)⟩
    | k + 4, h => exact absurd h (by simp)
  · have := formsR_len
    simp only [formsR, List.length_append] at this
    simp only [total, List.map_cons, List.map_nil, List.length_map, List.sum_cons, List.sum_nil]
    omega
  · have := formsR_len
    simp only [formsR, List.length_append] at this
    simp only [total, List.map_cons, List.map_nil, List.length_map, List.sum_cons, List.sum_nil]
    omega
  · rintro e w5 ⟨v5, rfl, ho5, hb5⟩
    have hfl : Hid ([fewR.map encR, (byTo isBin twoR 36).map encR, (byTo isUn oneR 36).map encR, (byTo isLoad loadR 36).map encR].flatten = formsR.map encR) := Lib.hid (by simp [formsR])
    go_wp2_with fail
    go_ret
    refine ⟨_, rfl, ?_, ?_⟩
    · rw [← hfl.out]
      exact ho5.base (by have := hb04.size; simp; omega)
    · exact (hb04.trans (hW.mono hb04.size)).trans (hb5.mono (by have := hb04.size; simp; omega))

end

end Go.Proofs.YtaippkdlibampaaDoor

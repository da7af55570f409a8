/- Plain law of trees: which are plain, what they come to. -/
import Derived.Test.YthdicdkgfmiepaaDoorCvC
import Derived.Test.YthdicdkgfmiepaaDoorTnE
namespace Go.Proofs.YthdicdkgfmiepaaDoor
open Go.RowKit


/-- is a node a number's, but for its kids? -/
def isLoadT (op : Int) : Bool := decide (5 ≤ op) && decide (op ≤ 11)
def plainTop (op : Int) : Bool := !(isLoadT op || (isLeaf op && !decide (op = 1)))
mutual
def plainT : Pat → Bool
  | .mk op _ ks => plainTop op && plainsT ks
def plainsT : List Pat → Bool
  | [] => true
  | p :: ps => plainT p && plainsT ps
end
theorem plainT_eq (p : Pat) : plainT p = (plainTop p.op && plainsT p.kids) := by
  cases p; unfold plainT; rfl
theorem plainsT_iff : ∀ ps : List Pat, plainsT ps = true ↔ ∀ j (h : j < ps.length), plainT ps[j] = true
  | [] => by simp [plainsT]
  | p :: ps => by
    unfold plainsT
    rw [Bool.and_eq_true, plainsT_iff ps]
    constructor
    · rintro ⟨h1, h2⟩ j hj
      cases j with
      | zero => exact h1
      | succ j => exact h2 j (by simpa using hj)
    · intro h
      exact ⟨h 0 (by simp), fun j hj => h (j + 1) (by simpa using hj)⟩

def valK (op n : Int) : List Int → Int
  | [] => n
  | [a] => oneF op a
  | a :: b :: _ => twoF op a b
mutual
def valT : Pat → Int
  | .mk op n ks => valK op n (valsT ks)
def valsT : List Pat → List Int
  | [] => []
  | p :: ps => valT p :: valsT ps
end
theorem valsT_map : ∀ ps : List Pat, valsT ps = ps.map valT
  | [] => rfl
  | p :: ps => by unfold valsT; rw [valsT_map ps]; rfl
theorem valT_eq (p : Pat) : valT p = valK p.op p.nt (p.kids.map valT) := by
  cases p; unfold valT; rw [valsT_map]; rfl

theorem valK_rng {op n : Int} {l : List Int} (hn : I64r n) (hl : ∀ x ∈ l, I64r x) : I64r (valK op n l) := by
  match l, hl with
  | [], _ => exact hn
  | [a], _ => exact num1_rng _ _
  | a :: b :: r, h => exact num2_rng (h a (by simp)) (h b (by simp))

theorem PatWf.nt {p : Pat} (h : PatWf p) : I64r p.nt := by
  cases p
  unfold PatWf at h
  exact ⟨h.2.1.lo, h.2.1.hi⟩
theorem PatWf.kid {p : Pat} (h : PatWf p) : ∀ k ∈ p.kids, PatWf k := by
  cases p
  unfold PatWf at h
  exact h.2.2.at_

theorem valT_rng : ∀ p : Pat, PatWf p → I64r (valT p)
  | .mk op n ks => fun h => by
    rw [valT_eq]
    refine valK_rng h.nt ?_
    intro x hx
    obtain ⟨k, hk, rfl⟩ := List.mem_map.1 hx
    exact valT_rng k (h.kid k hk)
termination_by p => SizeOf.sizeOf p
decreasing_by
  have := List.sizeOf_lt_of_mem hk
  simp only [Pat.kids] at this
  simp only [Pat.mk.sizeOf_spec]
  omega

theorem treeOk_kid {p : Pat} (h : treeOk p = true) : ∀ j (hj : j < p.kids.length), treeOk p.kids[j] = true := by
  rw [treeOk_eq, Bool.and_eq_true] at h
  exact (treesOk_iff _).1 h.2
theorem plainT_kid {p : Pat} (h : plainT p = true) : ∀ j (hj : j < p.kids.length), plainT p.kids[j] = true := by
  rw [plainT_eq, Bool.and_eq_true] at h
  exact (plainsT_iff _).1 h.2

/-- what may be, and is plain: a number, an op of two, an op of one -/
theorem plain_cases {p : Pat} (h : treeOk p = true) (hp : plainT p = true) :
    (p.op = 1 ∧ p.kids.length = 0) ∨ (12 ≤ p.op ∧ p.op ≤ 30 ∧ p.kids.length = 2) ∨ (31 ≤ p.op ∧ p.op ≤ 36 ∧ p.kids.length = 1) := by
  rw [treeOk_eq, Bool.and_eq_true] at h
  rw [plainT_eq, Bool.and_eq_true] at hp
  obtain ⟨h1, _⟩ := h
  obtain ⟨h2, _⟩ := hp
  unfold topOk isOp arityOf isLeaf isBin at h1
  unfold plainTop isLoadT isLeaf at h2
  simp at h1 h2
  obtain ⟨⟨ha, hb⟩, hk, _⟩ := h1
  split at hk
  · omega
  · split at hk <;> omega

end Go.Proofs.YthdicdkgfmiepaaDoor

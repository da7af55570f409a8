/- Any order of a region's operations, with a condition on memory that all of them keep. -/
import Derived.Test.YthdicdkgfmiepaaGreatDoorOrd
namespace Go.Proofs.YthdicdkgfmiepaaGreatDoor
open Go.RowKit

def takeHOk (md : Region.Mode) (ops : Array Oper) (listed : Array Bool) (i : Nat) : Bool := Region.noSelect ops && Region.free md ops listed i && (Region.ready md ops listed).contains i

section
variable {P : Program} {ops : Array Oper} {Q : Exit → Act → World → Prop} {md : Region.Mode} {S : World → Prop}

theorem beginH {id : Nat} {a : Act} {w : World} (S : World → Prop) (hm : P.follows .mixedOrders = true) (hS : S w.drew)
    (h : S w.drew → wpAnyH P .any ops Q S ops.size (Array.replicate ops.size false) a w.drew) : (Code.region id ops true).wp P Q a w := wp_region_held hm (h hS)

theorem takeH {i : Nat} {oi : Oper} {d : Option Tmp} {v : Value} {fuel : Nat} {listed : Array Bool} {a : Act} {w : World} (hk : takeHOk md ops listed i = true) (hi : ops[i]? = some oi) (hd : oi.dst = d) (hwt : Region.wanted oi (yielded ops a.tmps) = true)
    (hQ : ∀ c a w, Q (.panic c) (a.put d v) w → Q (.panic c) a w) (hS : S w) (hy : ∀ w, S w → (execOp a.eval oi).run P w = .ok (.value v) w)
    (h : wpAnyH P md ops Q S fuel (listed.setIfInBounds i true) (a.put d v) w) : wpAnyH P md ops Q S (fuel + 1) listed a w := by
  unfold takeHOk at hk
  simp only [Bool.and_eq_true] at hk
  obtain ⟨⟨h3, h4⟩, h5⟩ := hk
  subst hd
  exact wpAnyH_take hi h3 h4 h5 hQ (.inl ⟨hwt, hy⟩) hS h

theorem onlyH {i : Nat} {o : Oper} {d : Option Tmp} {fuel : Nat} {listed : Array Bool} {a : Act} {w : World} (hr : Region.ready md ops listed = [i]) (ho : ops[i]? = some o) (hd : o.dst = d) (hwt : Region.wanted o (yielded ops a.tmps) = true)
    (h : ∀ K' : Act → World → Prop, Hid (∀ v w, S w → (S w → wpAnyH P md ops Q S fuel (listed.setIfInBounds i true) (a.put d v) w) → K' (a.put o.dst v) w) → Oper.wp P o a w K' Q) : wpAnyH P md ops Q S (fuel + 1) listed a w := by
  subst hd
  refine ⟨fun h0 => absurd (hr ▸ h0) (by simp), fun j hj => ?_⟩
  rw [hr] at hj
  obtain rfl : j = i := by simpa using hj
  exact wpOp_step ho (fun K' hK => by rw [if_pos hwt]; exact h K' (Lib.hid (fun v w hS hW => hK _ w ⟨hS, hW hS⟩)))
/-- a taking of what its guard passes over -/
theorem skipH {i : Nat} {oi : Oper} {d : Option Tmp} {fuel : Nat} {listed : Array Bool} {a : Act} {w : World} (hk : takeHOk md ops listed i = true) (hi : ops[i]? = some oi) (hd : oi.dst = d) (hwt : Region.wanted oi (yielded ops a.tmps) = false)
    (hQ : ∀ c a w, Q (.panic c) (a.put d undef) w → Q (.panic c) a w) (hS : S w)
    (h : wpAnyH P md ops Q S fuel (listed.setIfInBounds i true) (a.put d undef) w) : wpAnyH P md ops Q S (fuel + 1) listed a w := by
  unfold takeHOk at hk
  simp only [Bool.and_eq_true] at hk
  obtain ⟨⟨h3, h4⟩, h5⟩ := hk
  subst hd
  exact wpAnyH_take hi h3 h4 h5 hQ (.inr ⟨hwt, rfl⟩) hS h

/-- only this one may come up, and its guard passes over it -/
theorem onlySkipH {i : Nat} {o : Oper} {d : Option Tmp} {fuel : Nat} {listed : Array Bool} {a : Act} {w : World} (hr : Region.ready md ops listed = [i]) (ho : ops[i]? = some o) (hd : o.dst = d) (hwt : Region.wanted o (yielded ops a.tmps) = false) (hS : S w)
    (h : wpAnyH P md ops Q S fuel (listed.setIfInBounds i true) (a.put d undef) w) : wpAnyH P md ops Q S (fuel + 1) listed a w := by
  subst hd
  refine ⟨fun h0 => absurd (hr ▸ h0) (by simp), fun j hj => ?_⟩
  rw [hr] at hj
  obtain rfl : j = i := by simpa using hj
  exact wpOp_step ho (fun K' hK => by rw [if_neg (by rw [hwt]; decide)]; exact hK _ w ⟨hS, h⟩)
end

end Go.Proofs.YthdicdkgfmiepaaGreatDoor

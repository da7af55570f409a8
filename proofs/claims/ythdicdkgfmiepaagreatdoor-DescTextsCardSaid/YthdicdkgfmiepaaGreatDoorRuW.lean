/- The reference's Check walked. -/
import Derived.Test.YthdicdkgfmiepaaGreatDoorRuV
namespace Go.Proofs.YthdicdkgfmiepaaGreatDoor
open Go.RowKit

theorem formOf_form {s : List UInt8} {x : Rule} (h : formOf s = some x) : x.form = s := by
  unfold formOf at h
  have := List.find?_some h
  simpa using this

theorem rightR_same {r x : Rule} (h : formOf r.form = some x) : rightR r = same (⟨x.nt, x.pat, r.cost, x.form⟩ : Rule) r := by
  unfold rightR
  rw [h, Bool.eq_iff_iff, same_iff, Rule.ext_iff']
  simp [same_iff, formOf_form h]

end Go.Proofs.YthdicdkgfmiepaaGreatDoor

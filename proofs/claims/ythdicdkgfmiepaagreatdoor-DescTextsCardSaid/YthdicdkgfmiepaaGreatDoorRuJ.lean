/- rule.All walked. -/
import Derived.Test.YthdicdkgfmiepaaGreatDoorRuI
namespace Go.Proofs.YthdicdkgfmiepaaGreatDoor
open Go.RowKit

theorem string_info : (Tryz.prog.info? 9).map (fun i => (i.zero, i.size, i.bytes)) = some (some (.string ⟨#[]⟩), 1, 16) := by kernel_rfl

def formD (r : Rule) : D := .str r.form

end Go.Proofs.YthdicdkgfmiepaaGreatDoor

/- DriverFaults: no other goroutine. -/
import Derived.Test.YtfmlgiafkbakcaaGreatDoorDfJ2
import Derived.Test.YtfmlgiafkbakcaaGreatDoorCards
namespace Go.Proofs.YtfmlgiafkbakcaaGreatDoor
open Go
set_option maxRecDepth 100000

theorem Df_goes : Tryz.checked.prog.goes 3 = false := by
  unfold Program.goes
  rw [Df_clo, Df_j2]
  kernel_rfl
theorem goesBy_of {P : Program} {c : OpenClaim} {f : FuncId} (hs : c.start = .entering) (hn : P.funcNamed c.func = some f) (hg : P.goes f = false) : false = c.goesBy P := by
  unfold OpenClaim.goesBy Program.goesAt Program.goesFrom
  rw [hs, hn]
  simp [hg]
theorem Df_named : Tryz.pinned.checked.prog.funcNamed Rows.driverFaultsRow.func = some 3 := by kernel_rfl
theorem Df_by : false = Rows.driverFaultsRow.goesBy Tryz.pinned.checked.prog := goesBy_of rfl Df_named Df_goes
end Go.Proofs.YtfmlgiafkbakcaaGreatDoor

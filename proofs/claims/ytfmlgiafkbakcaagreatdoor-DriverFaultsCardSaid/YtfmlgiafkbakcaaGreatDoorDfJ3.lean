/- DriverFaults: a fact of its row. -/
import Derived.Test.YtfmlgiafkbakcaaGreatDoorDfJ0
namespace Go.Proofs.YtfmlgiafkbakcaaGreatDoor
open Go
set_option maxRecDepth 100000

theorem Df_j3 : Tryz.checked.prog.varsNamed 3 = ["internal/strconv.uint64pow10", "math/bits.deBruijn32tab", "math/bits.deBruijn64tab", "strings.asciiSpace", "unicode.White_Space", "internal/bytealg.MaxLen", "strconv.ErrSyntax", "strconv.ErrRange"] := by
  unfold Program.varsNamed
  rw [Df_clo]
  kernel_rfl

end Go.Proofs.YtfmlgiafkbakcaaGreatDoor

/- Calls that the law makes. -/
import Derived.Test.YtdnblmideoknbaaGreatWeA
import Derived.Test.YtdnblmideoknbaaGreatMa2
import Derived.Test.YtdnblmideoknbaaGreatMa3
import Derived.Test.YtdnblmideoknbaaGreatMa4
namespace Go.Proofs.YtdnblmideoknbaaGreat
open Go.Proofs.YtdnblmideoknbaaGreat.Ev

def MaAll : Tab := [(25, [MaE28])]
theorem Ma_ok [In4] : MaAll.Ok Tryz.prog Keep.none :=
  letI := envGen
  (Tab.ok_cons (f := 25) (Ent.ok_cons MaK28 Ent.ok_nil) Tab.ok_nil)
def MaPads : List Ent := [MaE23, MaE38]
theorem Ma_pads [In4] : ∀ x ∈ MaPads, x.Ok Tryz.prog Keep.none :=
  letI := envGen
  (Ent.ok_cons MaK23 (Ent.ok_cons MaK38 Ent.ok_nil))

end Go.Proofs.YtdnblmideoknbaaGreat

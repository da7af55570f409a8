/- Calls that the law makes. -/
import Derived.Test.YtdnblmideoknbaaGreatWeA
import Derived.Test.YtdnblmideoknbaaGreatLa2
import Derived.Test.YtdnblmideoknbaaGreatLa3
import Derived.Test.YtdnblmideoknbaaGreatLa4
import Derived.Test.YtdnblmideoknbaaGreatLa5
namespace Go.Proofs.YtdnblmideoknbaaGreat
open Go.Proofs.YtdnblmideoknbaaGreat.Ev

def LaAll : Tab := [(19, [LaE32]), (21, [LaE34])]
theorem La_ok [In4] : LaAll.Ok Tryz.prog Keep.none :=
  letI := envGen
  (Tab.ok_cons (f := 19) (Ent.ok_cons LaK32 Ent.ok_nil) (Tab.ok_cons (f := 21) (Ent.ok_cons LaK34 Ent.ok_nil) Tab.ok_nil))
def LaPads : List Ent := [LaE23, LaE44]
theorem La_pads [In4] : ∀ x ∈ LaPads, x.Ok Tryz.prog Keep.none :=
  letI := envGen
  (Ent.ok_cons LaK23 (Ent.ok_cons LaK44 Ent.ok_nil))

end Go.Proofs.YtdnblmideoknbaaGreat

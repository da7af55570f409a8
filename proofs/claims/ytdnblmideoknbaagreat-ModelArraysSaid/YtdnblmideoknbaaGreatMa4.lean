/- Calls that were proved one by one: what the evaluator says. -/
import Derived.Test.YtdnblmideoknbaaGreatMaO
import Derived.Test.YtdnblmideoknbaaGreatProg
import Derived.ProofKit
import Derived.Test.YtdnblmideoknbaaGreatWeA
import Derived.Test.YtdnblmideoknbaaGreatMa3
namespace Go.Proofs.YtdnblmideoknbaaGreat
open Go.Proofs.YtdnblmideoknbaaGreat.Ev
set_option maxRecDepth 100000

def MaE36 : Ent := ⟨14, (.cons (.str 28 MaS0) .nil), ⟨[], 100001⟩, (.tup (avs [(.agg (avs [.nils, (.sl 111310 0 1 8 false)])), (.bool true)])), ⟨[MaO190, MaO191, MaO192, MaO193, MaO194], 111480⟩⟩
theorem MaT36 [In4] : @Ent.check envGen Tryz.prog (@knownA envGen) [(36, [MaE32]), (121, [MaE34, MaE35])] 990 MaE36 = true := by kernel_rfl
theorem MaK36 [In4] : MaE36.Ok Tryz.prog Keep.none :=
  letI := envGen
  Ent.ok_of mixed (X := knownA) knownA_ok (Tab.ok_cons (f := 36) (Ent.ok_cons MaK32 Ent.ok_nil) (Tab.ok_cons (f := 121) (Ent.ok_cons MaK34 (Ent.ok_cons MaK35 Ent.ok_nil)) Tab.ok_nil)) MaT36
def MaE37 : Ent := ⟨25, (.cons (.agg (avs [.nils, (.sl 111310 0 1 8 false)])) .nil), ⟨[MaO190, MaO191, MaO192, MaO193, MaO194], 111483⟩, (.bool true), ⟨[MaO190, MaO191, MaO192, MaO193, MaO194], 111731⟩⟩
theorem MaT37 [In4] : @Ent.check envGen Tryz.prog (@knownA envGen) [] 990 MaE37 = true := by kernel_rfl
theorem MaK37 [In4] : MaE37.Ok Tryz.prog Keep.none :=
  letI := envGen
  Ent.ok_of mixed (X := knownA) knownA_ok Tab.ok_nil MaT37
def MaE38 : Ent := ⟨8, .nil, ⟨[], 100000⟩, (.bool true), ⟨[], 111976⟩⟩
theorem MaT38 [In4] : @Ent.check envGen Tryz.prog (@knownA envGen) [(14, [MaE36]), (25, [MaE37])] 990 MaE38 = true := by kernel_rfl
theorem MaK38 [In4] : MaE38.Ok Tryz.prog Keep.none :=
  letI := envGen
  Ent.ok_of mixed (X := knownA) knownA_ok (Tab.ok_cons (f := 14) (Ent.ok_cons MaK36 Ent.ok_nil) (Tab.ok_cons (f := 25) (Ent.ok_cons MaK37 Ent.ok_nil) Tab.ok_nil)) MaT38
end Go.Proofs.YtdnblmideoknbaaGreat

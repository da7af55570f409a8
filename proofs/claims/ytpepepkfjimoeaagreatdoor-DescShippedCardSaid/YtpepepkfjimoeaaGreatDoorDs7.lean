/- Calls that were proved one by one: what the evaluator says. -/
import Derived.Test.YtpepepkfjimoeaaGreatDoorDsO
import Derived.Test.YtpepepkfjimoeaaGreatDoorProg
import Derived.ProofKit
import Derived.Test.YtpepepkfjimoeaaGreatDoorVy
namespace Go.Proofs.YtpepepkfjimoeaaGreatDoor
open Go.Proofs.YtpepepkfjimoeaaGreatDoor.Ev
set_option maxRecDepth 100000

def DsE269 : Ent := ⟨34, (.cons (.sl 34876 0 56 6 false) .nil), ⟨[DsO183, DsO186, DsO189, DsO192, DsO195, DsO198, DsO201, DsO204, DsO207, DsO210, DsO213, DsO216, DsO219, DsO222, DsO225, DsO228, DsO231, DsO234, DsO237, DsO240, DsO243, DsO246, DsO249, DsO252, DsO255, DsO258, DsO261, DsO264, DsO267, DsO270, DsO273, DsO276, DsO279, DsO282, DsO285, DsO288, DsO291, DsO294, DsO297, DsO300, DsO303, DsO306, DsO309, DsO312, DsO315, DsO318, DsO321, DsO324, DsO325], 34877⟩, (.bool true), ⟨[DsO183, DsO186, DsO189, DsO192, DsO195, DsO198, DsO201, DsO204, DsO207, DsO210, DsO213, DsO216, DsO219, DsO222, DsO225, DsO228, DsO231, DsO234, DsO237, DsO240, DsO243, DsO246, DsO249, DsO252, DsO255, DsO258, DsO261, DsO264, DsO267, DsO270, DsO273, DsO276, DsO279, DsO282, DsO285, DsO288, DsO291, DsO294, DsO297, DsO300, DsO303, DsO306, DsO309, DsO312, DsO315, DsO318, DsO321, DsO324, DsO325], 35652⟩⟩
theorem DsT269 : Ent.check Tryz.prog known [] 990 DsE269 = true := by kernel_rfl
theorem DsK269 {W : World} (hW : LibW W) : DsE269.Ok Tryz.prog (KG W) := Ent.ok_of mixed (known_ok hW) Tab.ok_nil DsT269
def DsE270 : Ent := ⟨35, (.cons (.sl 34876 0 56 6 false) .nil), ⟨[DsO183, DsO186, DsO189, DsO192, DsO195, DsO198, DsO201, DsO204, DsO207, DsO210, DsO213, DsO216, DsO219, DsO222, DsO225, DsO228, DsO231, DsO234, DsO237, DsO240, DsO243, DsO246, DsO249, DsO252, DsO255, DsO258, DsO261, DsO264, DsO267, DsO270, DsO273, DsO276, DsO279, DsO282, DsO285, DsO288, DsO291, DsO294, DsO297, DsO300, DsO303, DsO306, DsO309, DsO312, DsO315, DsO318, DsO321, DsO324, DsO325], 35652⟩, (.str 1560 DsS176), ⟨[DsO183, DsO186, DsO189, DsO192, DsO195, DsO198, DsO201, DsO204, DsO207, DsO210, DsO213, DsO216, DsO219, DsO222, DsO225, DsO228, DsO231, DsO234, DsO237, DsO240, DsO243, DsO246, DsO249, DsO252, DsO255, DsO258, DsO261, DsO264, DsO267, DsO270, DsO273, DsO276, DsO279, DsO282, DsO285, DsO288, DsO291, DsO294, DsO297, DsO300, DsO303, DsO306, DsO309, DsO312, DsO315, DsO318, DsO321, DsO324, DsO325], 38522⟩⟩
theorem DsT270 : Ent.check Tryz.prog known [] 990 DsE270 = true := by kernel_rfl
theorem DsK270 {W : World} (hW : LibW W) : DsE270.Ok Tryz.prog (KG W) := Ent.ok_of mixed (known_ok hW) Tab.ok_nil DsT270
end Go.Proofs.YtpepepkfjimoeaaGreatDoor

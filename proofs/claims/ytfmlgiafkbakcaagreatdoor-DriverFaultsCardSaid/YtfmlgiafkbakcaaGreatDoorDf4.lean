/- Calls that were proved one by one: what the evaluator says. -/
import Derived.Test.YtfmlgiafkbakcaaGreatDoorDfO
import Derived.Test.YtfmlgiafkbakcaaGreatDoorProg
import Derived.ProofKit
import Derived.Test.YtfmlgiafkbakcaaGreatDoorVy
namespace Go.Proofs.YtfmlgiafkbakcaaGreatDoor
open Go.Proofs.YtfmlgiafkbakcaaGreatDoor.Ev
set_option maxRecDepth 100000

def DfE84 : Ent := ⟨93, DfQ0a, ⟨[], 21208⟩, DfQ0v 21208, ⟨DfQ0o 21208, 21536⟩⟩
theorem DfT84 : Ent.check Tryz.prog known [] 990 DfE84 = true := by kernel_rfl
theorem DfK84 {W : World} (hW : LibW W) : DfE84.Ok Tryz.prog (KG W) := Ent.ok_of mixed (known_ok hW) Tab.ok_nil DfT84
def DfE85 : Ent := ⟨176, (.cons (.sl 21535 0 60 6 false) (.cons (.fn 177 .nil (.cons (.ptr 21206 0) .nil)) .nil)), ⟨[DfO311, DfO312, DfO313, DfO314, DfO315, DfO316, DfO317, DfO318, DfO319, DfO320, DfO321, DfO322, DfO323, DfO324, DfO325, DfO326, DfO327, DfO328, DfO329, DfO330, DfO331, DfO332, DfO333, DfO334, DfO335, DfO336, DfO337, DfO338, DfO339, DfO340, DfO341, DfO342, DfO343, DfO344, DfO345, DfO346, DfO347, DfO348, DfO349, DfO350, DfO351, DfO352, DfO353, DfO354, DfO355, DfO356, DfO357, DfO358, DfO359, DfO360, DfO361, DfO362, DfO363, DfO364], 21536⟩, (nu 58), ⟨[DfO311, DfO312, DfO313, DfO314, DfO315, DfO316, DfO317, DfO318, DfO319, DfO320, DfO321, DfO322, DfO323, DfO324, DfO325, DfO326, DfO327, DfO328, DfO329, DfO330, DfO331, DfO332, DfO333, DfO334, DfO335, DfO336, DfO337, DfO338, DfO339, DfO340, DfO341, DfO342, DfO343, DfO344, DfO345, DfO346, DfO347, DfO348, DfO349, DfO350, DfO351, DfO352, DfO353, DfO354, DfO355, DfO356, DfO357, DfO358, DfO359, DfO360, DfO361, DfO362, DfO363, DfO364], 21595⟩⟩
theorem DfT85 : Ent.check Tryz.prog known [] 990 DfE85 = true := by kernel_rfl
theorem DfK85 {W : World} (hW : LibW W) : DfE85.Ok Tryz.prog (KG W) := Ent.ok_of mixed (known_ok hW) Tab.ok_nil DfT85
def DfE86 : Ent := ⟨93, DfQ0a, ⟨[], 21605⟩, DfQ0v 21605, ⟨DfQ0o 21605, 21933⟩⟩
theorem DfT86 : Ent.check Tryz.prog known [] 990 DfE86 = true := by kernel_rfl
theorem DfK86 {W : World} (hW : LibW W) : DfE86.Ok Tryz.prog (KG W) := Ent.ok_of mixed (known_ok hW) Tab.ok_nil DfT86
def DfE87 : Ent := ⟨176, (.cons (.sl 21932 0 60 6 false) (.cons (.fn 177 .nil (.cons (.ptr 21603 0) .nil)) .nil)), ⟨[DfO365, DfO366, DfO367, DfO368, DfO369, DfO370, DfO371, DfO372, DfO373, DfO374, DfO375, DfO376, DfO377, DfO378, DfO379, DfO380, DfO381, DfO382, DfO383, DfO384, DfO385, DfO386, DfO387, DfO388, DfO389, DfO390, DfO391, DfO392, DfO393, DfO394, DfO395, DfO396, DfO397, DfO398, DfO399, DfO400, DfO401, DfO402, DfO403, DfO404, DfO405, DfO406, DfO407, DfO408, DfO409, DfO410, DfO411, DfO412, DfO413, DfO414, DfO415, DfO416, DfO417, DfO418], 21933⟩, (nu 59), ⟨[DfO365, DfO366, DfO367, DfO368, DfO369, DfO370, DfO371, DfO372, DfO373, DfO374, DfO375, DfO376, DfO377, DfO378, DfO379, DfO380, DfO381, DfO382, DfO383, DfO384, DfO385, DfO386, DfO387, DfO388, DfO389, DfO390, DfO391, DfO392, DfO393, DfO394, DfO395, DfO396, DfO397, DfO398, DfO399, DfO400, DfO401, DfO402, DfO403, DfO404, DfO405, DfO406, DfO407, DfO408, DfO409, DfO410, DfO411, DfO412, DfO413, DfO414, DfO415, DfO416, DfO417, DfO418], 21993⟩⟩
theorem DfT87 : Ent.check Tryz.prog known [] 990 DfE87 = true := by kernel_rfl
theorem DfK87 {W : World} (hW : LibW W) : DfE87.Ok Tryz.prog (KG W) := Ent.ok_of mixed (known_ok hW) Tab.ok_nil DfT87
def DfE88 : Ent := ⟨93, DfQ0a, ⟨[], 22003⟩, DfQ0v 22003, ⟨DfQ0o 22003, 22331⟩⟩
theorem DfT88 : Ent.check Tryz.prog known [] 990 DfE88 = true := by kernel_rfl
theorem DfK88 {W : World} (hW : LibW W) : DfE88.Ok Tryz.prog (KG W) := Ent.ok_of mixed (known_ok hW) Tab.ok_nil DfT88
def DfE89 : Ent := ⟨93, DfQ0a, ⟨[], 22355⟩, DfQ0v 22355, ⟨DfQ0o 22355, 22683⟩⟩
theorem DfT89 : Ent.check Tryz.prog known [] 990 DfE89 = true := by kernel_rfl
theorem DfK89 {W : World} (hW : LibW W) : DfE89.Ok Tryz.prog (KG W) := Ent.ok_of mixed (known_ok hW) Tab.ok_nil DfT89
def DfE90 : Ent := ⟨93, DfQ0a, ⟨[], 22708⟩, DfQ0v 22708, ⟨DfQ0o 22708, 23036⟩⟩
theorem DfT90 : Ent.check Tryz.prog known [] 990 DfE90 = true := by kernel_rfl
theorem DfK90 {W : World} (hW : LibW W) : DfE90.Ok Tryz.prog (KG W) := Ent.ok_of mixed (known_ok hW) Tab.ok_nil DfT90
def DfE91 : Ent := ⟨93, DfQ0a, ⟨[], 23062⟩, DfQ0v 23062, ⟨DfQ0o 23062, 23390⟩⟩
theorem DfT91 : Ent.check Tryz.prog known [] 990 DfE91 = true := by kernel_rfl
theorem DfK91 {W : World} (hW : LibW W) : DfE91.Ok Tryz.prog (KG W) := Ent.ok_of mixed (known_ok hW) Tab.ok_nil DfT91
def DfE92 : Ent := ⟨93, DfQ0a, ⟨[], 23417⟩, DfQ0v 23417, ⟨DfQ0o 23417, 23745⟩⟩
theorem DfT92 : Ent.check Tryz.prog known [] 990 DfE92 = true := by kernel_rfl
theorem DfK92 {W : World} (hW : LibW W) : DfE92.Ok Tryz.prog (KG W) := Ent.ok_of mixed (known_ok hW) Tab.ok_nil DfT92
def DfE93 : Ent := ⟨93, DfQ0a, ⟨[], 23773⟩, DfQ0v 23773, ⟨DfQ0o 23773, 24101⟩⟩
theorem DfT93 : Ent.check Tryz.prog known [] 990 DfE93 = true := by kernel_rfl
theorem DfK93 {W : World} (hW : LibW W) : DfE93.Ok Tryz.prog (KG W) := Ent.ok_of mixed (known_ok hW) Tab.ok_nil DfT93
def DfE94 : Ent := ⟨93, DfQ0a, ⟨[], 24131⟩, DfQ0v 24131, ⟨DfQ0o 24131, 24459⟩⟩
theorem DfT94 : Ent.check Tryz.prog known [] 990 DfE94 = true := by kernel_rfl
theorem DfK94 {W : World} (hW : LibW W) : DfE94.Ok Tryz.prog (KG W) := Ent.ok_of mixed (known_ok hW) Tab.ok_nil DfT94
def DfE95 : Ent := ⟨93, DfQ0a, ⟨[], 24491⟩, DfQ0v 24491, ⟨DfQ0o 24491, 24819⟩⟩
theorem DfT95 : Ent.check Tryz.prog known [] 990 DfE95 = true := by kernel_rfl
theorem DfK95 {W : World} (hW : LibW W) : DfE95.Ok Tryz.prog (KG W) := Ent.ok_of mixed (known_ok hW) Tab.ok_nil DfT95
def DfE96 : Ent := ⟨93, DfQ0a, ⟨[], 24853⟩, DfQ0v 24853, ⟨DfQ0o 24853, 25181⟩⟩
theorem DfT96 : Ent.check Tryz.prog known [] 990 DfE96 = true := by kernel_rfl
theorem DfK96 {W : World} (hW : LibW W) : DfE96.Ok Tryz.prog (KG W) := Ent.ok_of mixed (known_ok hW) Tab.ok_nil DfT96
def DfE97 : Ent := ⟨93, DfQ0a, ⟨[], 25217⟩, DfQ0v 25217, ⟨DfQ0o 25217, 25545⟩⟩
theorem DfT97 : Ent.check Tryz.prog known [] 990 DfE97 = true := by kernel_rfl
theorem DfK97 {W : World} (hW : LibW W) : DfE97.Ok Tryz.prog (KG W) := Ent.ok_of mixed (known_ok hW) Tab.ok_nil DfT97
def DfE98 : Ent := ⟨93, DfQ0a, ⟨[], 25583⟩, DfQ0v 25583, ⟨DfQ0o 25583, 25911⟩⟩
theorem DfT98 : Ent.check Tryz.prog known [] 990 DfE98 = true := by kernel_rfl
theorem DfK98 {W : World} (hW : LibW W) : DfE98.Ok Tryz.prog (KG W) := Ent.ok_of mixed (known_ok hW) Tab.ok_nil DfT98
def DfE99 : Ent := ⟨93, DfQ0a, ⟨[], 25950⟩, DfQ0v 25950, ⟨DfQ0o 25950, 26278⟩⟩
theorem DfT99 : Ent.check Tryz.prog known [] 990 DfE99 = true := by kernel_rfl
theorem DfK99 {W : World} (hW : LibW W) : DfE99.Ok Tryz.prog (KG W) := Ent.ok_of mixed (known_ok hW) Tab.ok_nil DfT99
end Go.Proofs.YtfmlgiafkbakcaaGreatDoor

/- Calls that were proved one by one: what the evaluator says. -/
import Derived.Test.YtfmlgiafkbakcaaGreatDoorDfO
import Derived.Test.YtfmlgiafkbakcaaGreatDoorProg
import Derived.ProofKit
import Derived.Test.YtfmlgiafkbakcaaGreatDoorVy
namespace Go.Proofs.YtfmlgiafkbakcaaGreatDoor
open Go.Proofs.YtfmlgiafkbakcaaGreatDoor.Ev
set_option maxRecDepth 100000

def DfE68 : Ent := ⟨93, DfQ0a, ⟨[], 16514⟩, DfQ0v 16514, ⟨DfQ0o 16514, 16842⟩⟩
theorem DfT68 : Ent.check Tryz.prog known [] 990 DfE68 = true := by kernel_rfl
theorem DfK68 {W : World} (hW : LibW W) : DfE68.Ok Tryz.prog (KG W) := Ent.ok_of mixed (known_ok hW) Tab.ok_nil DfT68
def DfE69 : Ent := ⟨93, DfQ0a, ⟨[], 16850⟩, DfQ0v 16850, ⟨DfQ0o 16850, 17178⟩⟩
theorem DfT69 : Ent.check Tryz.prog known [] 990 DfE69 = true := by kernel_rfl
theorem DfK69 {W : World} (hW : LibW W) : DfE69.Ok Tryz.prog (KG W) := Ent.ok_of mixed (known_ok hW) Tab.ok_nil DfT69
def DfE70 : Ent := ⟨93, DfQ0a, ⟨[], 17187⟩, DfQ0v 17187, ⟨DfQ0o 17187, 17515⟩⟩
theorem DfT70 : Ent.check Tryz.prog known [] 990 DfE70 = true := by kernel_rfl
theorem DfK70 {W : World} (hW : LibW W) : DfE70.Ok Tryz.prog (KG W) := Ent.ok_of mixed (known_ok hW) Tab.ok_nil DfT70
def DfE71 : Ent := ⟨93, DfQ0a, ⟨[], 17525⟩, DfQ0v 17525, ⟨DfQ0o 17525, 17853⟩⟩
theorem DfT71 : Ent.check Tryz.prog known [] 990 DfE71 = true := by kernel_rfl
theorem DfK71 {W : World} (hW : LibW W) : DfE71.Ok Tryz.prog (KG W) := Ent.ok_of mixed (known_ok hW) Tab.ok_nil DfT71
def DfE72 : Ent := ⟨93, DfQ0a, ⟨[], 17864⟩, DfQ0v 17864, ⟨DfQ0o 17864, 18192⟩⟩
theorem DfT72 : Ent.check Tryz.prog known [] 990 DfE72 = true := by kernel_rfl
theorem DfK72 {W : World} (hW : LibW W) : DfE72.Ok Tryz.prog (KG W) := Ent.ok_of mixed (known_ok hW) Tab.ok_nil DfT72
def DfE73 : Ent := ⟨93, DfQ0a, ⟨[], 18204⟩, DfQ0v 18204, ⟨DfQ0o 18204, 18532⟩⟩
theorem DfT73 : Ent.check Tryz.prog known [] 990 DfE73 = true := by kernel_rfl
theorem DfK73 {W : World} (hW : LibW W) : DfE73.Ok Tryz.prog (KG W) := Ent.ok_of mixed (known_ok hW) Tab.ok_nil DfT73
def DfE74 : Ent := ⟨93, DfQ0a, ⟨[], 18545⟩, DfQ0v 18545, ⟨DfQ0o 18545, 18873⟩⟩
theorem DfT74 : Ent.check Tryz.prog known [] 990 DfE74 = true := by kernel_rfl
theorem DfK74 {W : World} (hW : LibW W) : DfE74.Ok Tryz.prog (KG W) := Ent.ok_of mixed (known_ok hW) Tab.ok_nil DfT74
def DfE75 : Ent := ⟨93, DfQ0a, ⟨[], 18887⟩, DfQ0v 18887, ⟨DfQ0o 18887, 19215⟩⟩
theorem DfT75 : Ent.check Tryz.prog known [] 990 DfE75 = true := by kernel_rfl
theorem DfK75 {W : World} (hW : LibW W) : DfE75.Ok Tryz.prog (KG W) := Ent.ok_of mixed (known_ok hW) Tab.ok_nil DfT75
def DfE76 : Ent := ⟨93, DfQ0a, ⟨[], 19238⟩, DfQ0v 19238, ⟨DfQ0o 19238, 19566⟩⟩
theorem DfT76 : Ent.check Tryz.prog known [] 990 DfE76 = true := by kernel_rfl
theorem DfK76 {W : World} (hW : LibW W) : DfE76.Ok Tryz.prog (KG W) := Ent.ok_of mixed (known_ok hW) Tab.ok_nil DfT76
def DfE77 : Ent := ⟨93, DfQ0a, ⟨[], 19630⟩, DfQ0v 19630, ⟨DfQ0o 19630, 19958⟩⟩
theorem DfT77 : Ent.check Tryz.prog known [] 990 DfE77 = true := by kernel_rfl
theorem DfK77 {W : World} (hW : LibW W) : DfE77.Ok Tryz.prog (KG W) := Ent.ok_of mixed (known_ok hW) Tab.ok_nil DfT77
def DfE78 : Ent := ⟨93, DfQ0a, ⟨[], 20023⟩, DfQ0v 20023, ⟨DfQ0o 20023, 20351⟩⟩
theorem DfT78 : Ent.check Tryz.prog known [] 990 DfE78 = true := by kernel_rfl
theorem DfK78 {W : World} (hW : LibW W) : DfE78.Ok Tryz.prog (KG W) := Ent.ok_of mixed (known_ok hW) Tab.ok_nil DfT78
def DfE79 : Ent := ⟨176, (.cons (.sl 20350 0 60 6 false) (.cons (.fn 177 .nil (.cons (.ptr 20021 0) .nil)) .nil)), ⟨[DfO149, DfO150, DfO151, DfO152, DfO153, DfO154, DfO155, DfO156, DfO157, DfO158, DfO159, DfO160, DfO161, DfO162, DfO163, DfO164, DfO165, DfO166, DfO167, DfO168, DfO169, DfO170, DfO171, DfO172, DfO173, DfO174, DfO175, DfO176, DfO177, DfO178, DfO179, DfO180, DfO181, DfO182, DfO183, DfO184, DfO185, DfO186, DfO187, DfO188, DfO189, DfO190, DfO191, DfO192, DfO193, DfO194, DfO195, DfO196, DfO197, DfO198, DfO199, DfO200, DfO201, DfO202], 20351⟩, (nu 55), ⟨[DfO149, DfO150, DfO151, DfO152, DfO153, DfO154, DfO155, DfO156, DfO157, DfO158, DfO159, DfO160, DfO161, DfO162, DfO163, DfO164, DfO165, DfO166, DfO167, DfO168, DfO169, DfO170, DfO171, DfO172, DfO173, DfO174, DfO175, DfO176, DfO177, DfO178, DfO179, DfO180, DfO181, DfO182, DfO183, DfO184, DfO185, DfO186, DfO187, DfO188, DfO189, DfO190, DfO191, DfO192, DfO193, DfO194, DfO195, DfO196, DfO197, DfO198, DfO199, DfO200, DfO201, DfO202], 20407⟩⟩
theorem DfT79 : Ent.check Tryz.prog known [] 990 DfE79 = true := by kernel_rfl
theorem DfK79 {W : World} (hW : LibW W) : DfE79.Ok Tryz.prog (KG W) := Ent.ok_of mixed (known_ok hW) Tab.ok_nil DfT79
def DfE80 : Ent := ⟨93, DfQ0a, ⟨[], 20417⟩, DfQ0v 20417, ⟨DfQ0o 20417, 20745⟩⟩
theorem DfT80 : Ent.check Tryz.prog known [] 990 DfE80 = true := by kernel_rfl
theorem DfK80 {W : World} (hW : LibW W) : DfE80.Ok Tryz.prog (KG W) := Ent.ok_of mixed (known_ok hW) Tab.ok_nil DfT80
def DfE81 : Ent := ⟨176, (.cons (.sl 20744 0 60 6 false) (.cons (.fn 177 .nil (.cons (.ptr 20415 0) .nil)) .nil)), ⟨[DfO203, DfO204, DfO205, DfO206, DfO207, DfO208, DfO209, DfO210, DfO211, DfO212, DfO213, DfO214, DfO215, DfO216, DfO217, DfO218, DfO219, DfO220, DfO221, DfO222, DfO223, DfO224, DfO225, DfO226, DfO227, DfO228, DfO229, DfO230, DfO231, DfO232, DfO233, DfO234, DfO235, DfO236, DfO237, DfO238, DfO239, DfO240, DfO241, DfO242, DfO243, DfO244, DfO245, DfO246, DfO247, DfO248, DfO249, DfO250, DfO251, DfO252, DfO253, DfO254, DfO255, DfO256], 20745⟩, (nu 56), ⟨[DfO203, DfO204, DfO205, DfO206, DfO207, DfO208, DfO209, DfO210, DfO211, DfO212, DfO213, DfO214, DfO215, DfO216, DfO217, DfO218, DfO219, DfO220, DfO221, DfO222, DfO223, DfO224, DfO225, DfO226, DfO227, DfO228, DfO229, DfO230, DfO231, DfO232, DfO233, DfO234, DfO235, DfO236, DfO237, DfO238, DfO239, DfO240, DfO241, DfO242, DfO243, DfO244, DfO245, DfO246, DfO247, DfO248, DfO249, DfO250, DfO251, DfO252, DfO253, DfO254, DfO255, DfO256], 20802⟩⟩
theorem DfT81 : Ent.check Tryz.prog known [] 990 DfE81 = true := by kernel_rfl
theorem DfK81 {W : World} (hW : LibW W) : DfE81.Ok Tryz.prog (KG W) := Ent.ok_of mixed (known_ok hW) Tab.ok_nil DfT81
def DfE82 : Ent := ⟨93, DfQ0a, ⟨[], 20812⟩, DfQ0v 20812, ⟨DfQ0o 20812, 21140⟩⟩
theorem DfT82 : Ent.check Tryz.prog known [] 990 DfE82 = true := by kernel_rfl
theorem DfK82 {W : World} (hW : LibW W) : DfE82.Ok Tryz.prog (KG W) := Ent.ok_of mixed (known_ok hW) Tab.ok_nil DfT82
def DfE83 : Ent := ⟨176, (.cons (.sl 21139 0 60 6 false) (.cons (.fn 177 .nil (.cons (.ptr 20810 0) .nil)) .nil)), ⟨[DfO257, DfO258, DfO259, DfO260, DfO261, DfO262, DfO263, DfO264, DfO265, DfO266, DfO267, DfO268, DfO269, DfO270, DfO271, DfO272, DfO273, DfO274, DfO275, DfO276, DfO277, DfO278, DfO279, DfO280, DfO281, DfO282, DfO283, DfO284, DfO285, DfO286, DfO287, DfO288, DfO289, DfO290, DfO291, DfO292, DfO293, DfO294, DfO295, DfO296, DfO297, DfO298, DfO299, DfO300, DfO301, DfO302, DfO303, DfO304, DfO305, DfO306, DfO307, DfO308, DfO309, DfO310], 21140⟩, (nu 57), ⟨[DfO257, DfO258, DfO259, DfO260, DfO261, DfO262, DfO263, DfO264, DfO265, DfO266, DfO267, DfO268, DfO269, DfO270, DfO271, DfO272, DfO273, DfO274, DfO275, DfO276, DfO277, DfO278, DfO279, DfO280, DfO281, DfO282, DfO283, DfO284, DfO285, DfO286, DfO287, DfO288, DfO289, DfO290, DfO291, DfO292, DfO293, DfO294, DfO295, DfO296, DfO297, DfO298, DfO299, DfO300, DfO301, DfO302, DfO303, DfO304, DfO305, DfO306, DfO307, DfO308, DfO309, DfO310], 21198⟩⟩
theorem DfT83 : Ent.check Tryz.prog known [] 990 DfE83 = true := by kernel_rfl
theorem DfK83 {W : World} (hW : LibW W) : DfE83.Ok Tryz.prog (KG W) := Ent.ok_of mixed (known_ok hW) Tab.ok_nil DfT83
end Go.Proofs.YtfmlgiafkbakcaaGreatDoor

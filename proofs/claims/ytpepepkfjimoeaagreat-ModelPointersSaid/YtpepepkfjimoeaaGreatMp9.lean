/- Calls that were proved one by one: what the evaluator says. -/
import Derived.Test.YtpepepkfjimoeaaGreatMpO
import Derived.Test.YtpepepkfjimoeaaGreatMpOx1
import Derived.Test.YtpepepkfjimoeaaGreatProg
import Derived.ProofKit
import Derived.Test.YtpepepkfjimoeaaGreatVh
import Derived.Test.YtpepepkfjimoeaaGreatMp8
namespace Go.Proofs.YtpepepkfjimoeaaGreat
open Go.Proofs.YtpepepkfjimoeaaGreat.Ev
set_option maxRecDepth 100000

def MpE67 : Ent := ⟨229, (.cons (.ptr 175631 0) (.cons (nu 3) .nil)), ⟨[MpO645, MpO646, MpO647, MpO648, MpO649, MpO650, MpO651, MpO652, MpO653, MpO654, MpO655, MpO656, MpO657, MpO658, MpO659, MpO660, MpO661, MpO662, MpO663, MpO664, MpO665, MpO666, MpO667, MpO668, MpO669, MpO670, MpO671, MpO672, MpO673, MpO674, MpO675, MpO676, MpO677, MpO678, MpO679, MpO680, MpO681, MpO682, MpO683, MpO696], 177538⟩, (.agg (avs [(nu 35), (nu 0), (nu 0), (nu 0), (.str 3 7632240), (nu 0), (.sl 177845 0 1 8 false), (nu 45)])), ⟨[MpO645, MpO646, MpO647, MpO648, MpO649, MpO650, MpO651, MpO652, MpO653, MpO654, MpO655, MpO656, MpO657, MpO658, MpO659, MpO660, MpO661, MpO662, MpO663, MpO664, MpO665, MpO666, MpO667, MpO668, MpO669, MpO670, MpO671, MpO672, MpO673, MpO674, MpO675, MpO676, MpO677, MpO678, MpO679, MpO680, MpO681, MpO682, MpO683, MpO699, MpO700, MpO701], 177850⟩⟩
theorem MpT67 : Ent.check Tryz.prog [] 990 MpE67 = true := by kernel_rfl
theorem MpK67 : MpE67.Ok Tryz.prog := Ent.ok_of mixed Tab.ok_nil MpT67
def MpE68 : Ent := ⟨87, (.cons (.ptr 175631 0) (.cons (nu 2) .nil)), ⟨[MpO645, MpO646, MpO647, MpO648, MpO649, MpO650, MpO651, MpO652, MpO653, MpO654, MpO655, MpO656, MpO657, MpO658, MpO659, MpO660, MpO661, MpO662, MpO663, MpO664, MpO665, MpO666, MpO667, MpO668, MpO669, MpO670, MpO671, MpO672, MpO673, MpO674, MpO675, MpO676, MpO677, MpO678, MpO679, MpO680, MpO681, MpO682, MpO683, MpO696], 177495⟩, (.agg (avs [(nu 1), (.sl 178092 0 1 8 true), .nils, (nu 0), (nu 0), (nu 0), (.str 0 0), (nu 0), (nu 45)])), ⟨[MpO645, MpO646, MpO647, MpO648, MpO649, MpO650, MpO651, MpO652, MpO653, MpO654, MpO655, MpO656, MpO657, MpO658, MpO659, MpO660, MpO661, MpO662, MpO663, MpO664, MpO665, MpO666, MpO667, MpO668, MpO669, MpO670, MpO671, MpO672, MpO673, MpO674, MpO675, MpO676, MpO677, MpO678, MpO679, MpO680, MpO681, MpO682, MpO683, MpO702, MpO700, MpO701, MpO703], 178096⟩⟩
theorem MpT68 : Ent.check Tryz.prog [(229, [MpE67])] 990 MpE68 = true := by kernel_rfl
theorem MpK68 : MpE68.Ok Tryz.prog := Ent.ok_of mixed (Tab.ok_cons (f := 229) (Ent.ok_cons MpK67 Ent.ok_nil) Tab.ok_nil) MpT68
def MpE69 : Ent := ⟨23, (.cons (.ptr 175631 0) .nil), ⟨[MpO645, MpO646, MpO647, MpO648, MpO649, MpO650, MpO651, MpO652, MpO653, MpO654, MpO655, MpO656, MpO657, MpO658, MpO659, MpO660, MpO661, MpO662, MpO663, MpO664, MpO665, MpO666, MpO667, MpO668, MpO669, MpO670, MpO671, MpO672, MpO673, MpO674, MpO675, MpO676, MpO677, MpO678, MpO679, MpO680, MpO681, MpO682, MpO683, MpO704], 175632⟩, (.tup (avs [])), ⟨[MpO645, MpO646, MpO647, MpO648, MpO649, MpO650, MpO651, MpO652, MpO653, MpO654, MpO655, MpO656, MpO657, MpO658, MpO659, MpO660, MpO661, MpO662, MpO663, MpO664, MpO665, MpO666, MpO667, MpO668, MpO669, MpO670, MpO671, MpO672, MpO673, MpO674, MpO675, MpO676, MpO677, MpO678, MpO679, MpO680, MpO681, MpO682, MpO683, MpO705, MpO706, MpO686, MpO688, MpO707, MpO708, MpO691, MpO694, MpO695, MpO709, MpO697, MpO698, MpO710, MpO700, MpO701, MpO703, MpO711, MpO712], 178116⟩⟩
theorem MpT69 : Ent.check Tryz.prog [(114, [MpE63]), (87, [MpE65, MpE66, MpE68])] 990 MpE69 = true := by kernel_rfl
theorem MpK69 : MpE69.Ok Tryz.prog := Ent.ok_of mixed (Tab.ok_cons (f := 114) (Ent.ok_cons MpK63 Ent.ok_nil) (Tab.ok_cons (f := 87) (Ent.ok_cons MpK65 (Ent.ok_cons MpK66 (Ent.ok_cons MpK68 Ent.ok_nil))) Tab.ok_nil)) MpT69
def MpE70 : Ent := ⟨105, (.cons (.ptr 178224 0) (.cons (.sl 178221 0 5 9 false) .nil)), ⟨[MpO713, MpO714, MpO715, MpO716, MpO717, MpO718, MpO719, MpO720, MpO721, MpO722, MpO723, MpO724, MpO725, MpO726, MpO727, MpO728, MpO729, MpO730, MpO731, MpO732, MpO733, MpO734], 178252⟩, (.tup (avs [])), ⟨[MpO735, MpO736, MpO737, MpO738, MpO739, MpO740, MpO741, MpO742, MpO743, MpO744, MpO745, MpO746, MpO747, MpO748, MpO749, MpO750, MpO751, MpO752, MpO753], 178878⟩⟩
theorem MpT70 : Ent.check Tryz.prog [] 990 MpE70 = true := by kernel_rfl
theorem MpK70 : MpE70.Ok Tryz.prog := Ent.ok_of mixed Tab.ok_nil MpT70
def MpE71 : Ent := ⟨67, (.cons (.ptr 179080 0) (.cons (.sl 178947 0 5 9 false) .nil)), ⟨[MpO754, MpO755, MpO756, MpO757, MpO758, MpO759, MpO760, MpO761, MpO762, MpO763, MpO764, MpO765, MpO766, MpO767, MpO768, MpO769, MpO770], 179102⟩, (.tup (avs [])), ⟨[MpO771, MpO755, MpO756, MpO757, MpO758, MpO759, MpO760, MpO761, MpO762, MpO763, MpO764, MpO765, MpO766, MpO772, MpO773, MpO769, MpO770, MpO774, MpO775], 179636⟩⟩
theorem MpT71 : Ent.check Tryz.prog [] 990 MpE71 = true := by kernel_rfl
theorem MpK71 : MpE71.Ok Tryz.prog := Ent.ok_of mixed Tab.ok_nil MpT71
def MpE72 : Ent := ⟨31, (.cons (.agg (avs [.nils, (.sl 178223 0 1 8 false)])) .nil), ⟨[MpO735, MpO736, MpO737, MpO738, MpO739, MpO740, MpO741, MpO742, MpO743, MpO744, MpO745, MpO746, MpO747, MpO751, MpO753], 178900⟩, (.bool true), ⟨[MpO735, MpO736, MpO737, MpO738, MpO739, MpO740, MpO741, MpO742, MpO743, MpO744, MpO745, MpO746, MpO747, MpO751, MpO753], 179740⟩⟩
theorem MpT72 : Ent.check Tryz.prog [(67, [MpE71])] 990 MpE72 = true := by kernel_rfl
theorem MpK72 : MpE72.Ok Tryz.prog := Ent.ok_of mixed (Tab.ok_cons (f := 67) (Ent.ok_cons MpK71 Ent.ok_nil) Tab.ok_nil) MpT72
def MpE73 : Ent := ⟨34, (.cons (.ptr 179740 0) (.cons (.ptr 178223 0) (.cons .nils .nil))), ⟨[MpO735, MpO736, MpO737, MpO738, MpO739, MpO740, MpO741, MpO742, MpO743, MpO744, MpO745, MpO746, MpO747, MpO751, MpO753, MpO776], 179741⟩, (.tup (avs [(.agg (avs [(nu 0), (nu 0)])), (.bool true)])), ⟨[MpO735, MpO736, MpO737, MpO738, MpO739, MpO740, MpO741, MpO742, MpO743, MpO744, MpO745, MpO746, MpO747, MpO751, MpO753, MpO777, MpO778, MpO779, MpO780, MpO781, MpO782, MpO783, MpO784, MpO785], 180720⟩⟩
theorem MpT73 : Ent.check Tryz.prog [] 990 MpE73 = true := by kernel_rfl
theorem MpK73 : MpE73.Ok Tryz.prog := Ent.ok_of mixed Tab.ok_nil MpT73
end Go.Proofs.YtpepepkfjimoeaaGreat

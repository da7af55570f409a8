/- Calls that were proved one by one: what the evaluator says. -/
import Derived.Test.YtpepepkfjimoeaaGreatMfO
import Derived.Test.YtpepepkfjimoeaaGreatMfOx1
import Derived.Test.YtpepepkfjimoeaaGreatProg
import Derived.ProofKit
import Derived.Test.YtpepepkfjimoeaaGreatVh
import Derived.Test.YtpepepkfjimoeaaGreatMf9
namespace Go.Proofs.YtpepepkfjimoeaaGreat
open Go.Proofs.YtpepepkfjimoeaaGreat.Ev
set_option maxRecDepth 100000

def MfE84 : Ent := ⟨105, (.cons (.ptr 205352 0) (.cons (.sl 205349 0 5 9 false) .nil)), ⟨[MfO724, MfO725, MfO726, MfO727, MfO728, MfO729, MfO730, MfO731, MfO732, MfO733, MfO734, MfO735, MfO736, MfO737, MfO738, MfO739, MfO740], 205380⟩, (.tup (avs [])), ⟨[MfO741, MfO742, MfO743, MfO744, MfO745, MfO746, MfO747, MfO736, MfO748, MfO749, MfO750, MfO751, MfO752, MfO753, MfO754, MfO755], 205824⟩⟩
theorem MfT84 : Ent.check Tryz.prog [] 990 MfE84 = true := by kernel_rfl
theorem MfK84 : MfE84.Ok Tryz.prog := Ent.ok_of mixed Tab.ok_nil MfT84
def MfE85 : Ent := ⟨17, (.cons (.agg (avs [.nils, (.sl 205351 0 1 8 false)])) .nil), ⟨[MfO741, MfO742, MfO743, MfO744, MfO745, MfO746, MfO747, MfO736, MfO748, MfO749, MfO753], 205867⟩, (.tup (avs [(.agg (avs [.nils, (.sl 205882 0 1 8 false)])), (.agg (avs [(nu 0), (nu 0)]))])), ⟨[MfO741, MfO742, MfO743, MfO744, MfO745, MfO746, MfO747, MfO736, MfO748, MfO749, MfO753, MfO756, MfO757, MfO758, MfO759, MfO760, MfO761, MfO762, MfO763, MfO764, MfO765, MfO766], 206448⟩⟩
theorem MfT85 : Ent.check Tryz.prog [] 990 MfE85 = true := by kernel_rfl
theorem MfK85 : MfE85.Ok Tryz.prog := Ent.ok_of mixed Tab.ok_nil MfT85
def MfE86 : Ent := ⟨34, (.cons (.ptr 206514 0) (.cons (.ptr 205351 0) (.cons .nils .nil))), ⟨[MfO741, MfO742, MfO743, MfO744, MfO745, MfO746, MfO747, MfO736, MfO748, MfO749, MfO753, MfO767], 206515⟩, (.tup (avs [(.agg (avs [(nu 0), (nu 0)])), (.bool true)])), ⟨[MfO741, MfO742, MfO743, MfO744, MfO745, MfO746, MfO747, MfO736, MfO748, MfO749, MfO753, MfO768, MfO769, MfO770, MfO771, MfO772, MfO773, MfO774, MfO775, MfO776], 208238⟩⟩
theorem MfT86 : Ent.check Tryz.prog [] 990 MfE86 = true := by kernel_rfl
theorem MfK86 : MfE86.Ok Tryz.prog := Ent.ok_of mixed Tab.ok_nil MfT86
def MfE87 : Ent := ⟨13, (.cons (.str 55 1388909586933153929625208445153972536040301308744372733840467420227904702329894988605250393823883369067226540946279737226961033129577) (.cons .nils .nil)), ⟨[], 184793⟩, (.agg (avs [(nu 1), (nu 0), (.sl 207854 0 3 1 false), (nu 39), (nu 1)])), ⟨[MfO774, MfO775, MfO776], 208252⟩⟩
theorem MfT87 : Ent.check Tryz.prog [(22, [MfE77]), (48, [MfE83]), (105, [MfE84]), (17, [MfE85]), (34, [MfE86])] 990 MfE87 = true := by kernel_rfl
theorem MfK87 : MfE87.Ok Tryz.prog := Ent.ok_of mixed (Tab.ok_cons (f := 22) (Ent.ok_cons MfK77 Ent.ok_nil) (Tab.ok_cons (f := 48) (Ent.ok_cons MfK83 Ent.ok_nil) (Tab.ok_cons (f := 105) (Ent.ok_cons MfK84 Ent.ok_nil) (Tab.ok_cons (f := 17) (Ent.ok_cons MfK85 Ent.ok_nil) (Tab.ok_cons (f := 34) (Ent.ok_cons MfK86 Ent.ok_nil) Tab.ok_nil))))) MfT87
def MfE88 : Ent := ⟨22, (.cons (.str 60 1527109362472356661425360903188297281246401515781028254420771531304936459928585108802680436734638177477654754841470412499705656498498662286257769) .nil), ⟨[], 208302⟩, (.tup (avs [(.sl 233862 0 35 4 false), (.agg (avs [(nu 0), (nu 0)]))])), ⟨[MfO777, MfO778, MfO779, MfO780, MfO781, MfO782, MfO783, MfO784, MfO785, MfO786, MfO787, MfO788, MfO789, MfO790, MfO791, MfO792, MfO793, MfO794, MfO795, MfO796, MfO797, MfO798, MfO799, MfO800, MfO801, MfO802, MfO803, MfO804, MfO805, MfO806, MfO807, MfO808, MfO809, MfO810, MfO811], 233863⟩⟩
theorem MfT88 : Ent.check Tryz.prog [] 990 MfE88 = true := by kernel_rfl
theorem MfK88 : MfE88.Ok Tryz.prog := Ent.ok_of mixed Tab.ok_nil MfT88
def MfE89 : Ent := ⟨222, (.cons (.ptr 233864 0) (.cons (nu 5) .nil)), ⟨[MfO777, MfO778, MfO779, MfO780, MfO781, MfO782, MfO783, MfO784, MfO785, MfO786, MfO787, MfO788, MfO789, MfO790, MfO791, MfO792, MfO793, MfO794, MfO795, MfO796, MfO797, MfO798, MfO799, MfO800, MfO801, MfO802, MfO803, MfO804, MfO805, MfO806, MfO807, MfO808, MfO809, MfO810, MfO811, MfO812], 234275⟩, (.agg (avs [(nu 35), (nu 0), (nu 0), (nu 0), (.str 3 7632240), (nu 0), (.sl 234570 0 1 8 false), (nu 28)])), ⟨[MfO777, MfO778, MfO779, MfO780, MfO781, MfO782, MfO783, MfO784, MfO785, MfO786, MfO787, MfO788, MfO789, MfO790, MfO791, MfO792, MfO793, MfO794, MfO795, MfO796, MfO797, MfO798, MfO799, MfO800, MfO801, MfO802, MfO803, MfO804, MfO805, MfO806, MfO807, MfO808, MfO809, MfO810, MfO811, MfO813, MfO814], 234580⟩⟩
theorem MfT89 : Ent.check Tryz.prog [] 990 MfE89 = true := by kernel_rfl
theorem MfK89 : MfE89.Ok Tryz.prog := Ent.ok_of mixed Tab.ok_nil MfT89
end Go.Proofs.YtpepepkfjimoeaaGreat

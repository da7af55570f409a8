/- Calls that were proved one by one: what the evaluator says. -/
import Derived.Test.YtpepepkfjimoeaaGreatMnO
import Derived.Test.YtpepepkfjimoeaaGreatMnOx1
import Derived.Test.YtpepepkfjimoeaaGreatProg
import Derived.ProofKit
import Derived.Test.YtpepepkfjimoeaaGreatVh
namespace Go.Proofs.YtpepepkfjimoeaaGreat
open Go.Proofs.YtpepepkfjimoeaaGreat.Ev
set_option maxRecDepth 100000

def MnE103 : Ent := ⟨22, (.cons (.str 52 82784764038132263936255765201835923379789955807784832271163256407285694560070138601612180775814951837849715626886428118773353) .nil), ⟨[], 227832⟩, (.tup (avs [(.sl 247585 0 27 4 false), (.agg (avs [(nu 0), (nu 0)]))])), ⟨[MnO708, MnO709, MnO710, MnO711, MnO712, MnO713, MnO714, MnO715, MnO716, MnO717, MnO718, MnO719, MnO720, MnO721, MnO722, MnO723, MnO724, MnO725, MnO726, MnO727, MnO728, MnO729, MnO730, MnO731, MnO732, MnO733, MnO734], 247586⟩⟩
theorem MnT103 : Ent.check Tryz.prog [] 990 MnE103 = true := by kernel_rfl
theorem MnK103 : MnE103.Ok Tryz.prog := Ent.ok_of mixed Tab.ok_nil MnT103
def MnE104 : Ent := ⟨171, (.cons (.ptr 247587 0) (.cons (nu 4) (.cons (nu 6) .nil))), ⟨[MnO708, MnO709, MnO710, MnO711, MnO712, MnO713, MnO714, MnO715, MnO716, MnO717, MnO718, MnO719, MnO720, MnO721, MnO722, MnO723, MnO724, MnO725, MnO726, MnO727, MnO728, MnO729, MnO730, MnO731, MnO732, MnO733, MnO734, MnO735], 247692⟩, (.agg (avs [(nu 22), (nu 0), (nu 0), (nu 0), (.str 0 0), (nu 0), (.sl 248037 0 2 8 true), (nu 29)])), ⟨[MnO708, MnO709, MnO710, MnO711, MnO712, MnO713, MnO714, MnO715, MnO716, MnO717, MnO718, MnO719, MnO720, MnO721, MnO722, MnO723, MnO724, MnO725, MnO726, MnO727, MnO728, MnO729, MnO730, MnO731, MnO732, MnO733, MnO734, MnO736, MnO737, MnO738], 248086⟩⟩
theorem MnT104 : Ent.check Tryz.prog [] 990 MnE104 = true := by kernel_rfl
theorem MnK104 : MnE104.Ok Tryz.prog := Ent.ok_of mixed Tab.ok_nil MnT104
def MnE105 : Ent := ⟨171, (.cons (.ptr 247587 0) (.cons (nu 3) (.cons (nu 4) .nil))), ⟨[MnO708, MnO709, MnO710, MnO711, MnO712, MnO713, MnO714, MnO715, MnO716, MnO717, MnO718, MnO719, MnO720, MnO721, MnO722, MnO723, MnO724, MnO725, MnO726, MnO727, MnO728, MnO729, MnO730, MnO731, MnO732, MnO733, MnO734, MnO739], 247643⟩, (.agg (avs [(nu 35), (nu 0), (nu 0), (nu 0), (.str 3 7632240), (nu 0), (.sl 248231 0 1 8 false), (nu 11)])), ⟨[MnO708, MnO709, MnO710, MnO711, MnO712, MnO713, MnO714, MnO715, MnO716, MnO717, MnO718, MnO719, MnO720, MnO721, MnO722, MnO723, MnO724, MnO725, MnO726, MnO727, MnO728, MnO729, MnO730, MnO731, MnO732, MnO733, MnO734, MnO740, MnO737, MnO738, MnO741], 248379⟩⟩
theorem MnT105 : Ent.check Tryz.prog [(171, [MnE104])] 990 MnE105 = true := by kernel_rfl
theorem MnK105 : MnE105.Ok Tryz.prog := Ent.ok_of mixed (Tab.ok_cons (f := 171) (Ent.ok_cons MnK104 Ent.ok_nil) Tab.ok_nil) MnT105
def MnE106 : Ent := ⟨229, (.cons (.ptr 247587 0) (.cons (nu 3) .nil)), ⟨[MnO708, MnO709, MnO710, MnO711, MnO712, MnO713, MnO714, MnO715, MnO716, MnO717, MnO718, MnO719, MnO720, MnO721, MnO722, MnO723, MnO724, MnO725, MnO726, MnO727, MnO728, MnO729, MnO730, MnO731, MnO732, MnO733, MnO734, MnO742], 248528⟩, (.agg (avs [(nu 35), (nu 0), (nu 0), (nu 0), (.str 3 7632240), (nu 0), (.sl 248828 0 1 8 false), (nu 33)])), ⟨[MnO708, MnO709, MnO710, MnO711, MnO712, MnO713, MnO714, MnO715, MnO716, MnO717, MnO718, MnO719, MnO720, MnO721, MnO722, MnO723, MnO724, MnO725, MnO726, MnO727, MnO728, MnO729, MnO730, MnO731, MnO732, MnO733, MnO734, MnO743, MnO744], 248833⟩⟩
theorem MnT106 : Ent.check Tryz.prog [] 990 MnE106 = true := by kernel_rfl
theorem MnK106 : MnE106.Ok Tryz.prog := Ent.ok_of mixed Tab.ok_nil MnT106
def MnE107 : Ent := ⟨87, (.cons (.ptr 247587 0) (.cons (nu 2) .nil)), ⟨[MnO708, MnO709, MnO710, MnO711, MnO712, MnO713, MnO714, MnO715, MnO716, MnO717, MnO718, MnO719, MnO720, MnO721, MnO722, MnO723, MnO724, MnO725, MnO726, MnO727, MnO728, MnO729, MnO730, MnO731, MnO732, MnO733, MnO734, MnO742], 248485⟩, (.agg (avs [(nu 1), (.sl 249075 0 1 8 true), .nils, (nu 0), (nu 0), (nu 0), (.str 0 0), (nu 0), (nu 33)])), ⟨[MnO708, MnO709, MnO710, MnO711, MnO712, MnO713, MnO714, MnO715, MnO716, MnO717, MnO718, MnO719, MnO720, MnO721, MnO722, MnO723, MnO724, MnO725, MnO726, MnO727, MnO728, MnO729, MnO730, MnO731, MnO732, MnO733, MnO734, MnO745, MnO744, MnO746], 249079⟩⟩
theorem MnT107 : Ent.check Tryz.prog [(229, [MnE106])] 990 MnE107 = true := by kernel_rfl
theorem MnK107 : MnE107.Ok Tryz.prog := Ent.ok_of mixed (Tab.ok_cons (f := 229) (Ent.ok_cons MnK106 Ent.ok_nil) Tab.ok_nil) MnT107
def MnE108 : Ent := ⟨30, (.cons (.agg (avs [.nils, (.sl 249098 0 1 8 false)])) .nil), ⟨[MnO737, MnO738, MnO741, MnO747, MnO748, MnO744, MnO746, MnO749, MnO750], 249101⟩, (.tup (avs [(.agg (avs [.nils, (.sl 249161 0 1 8 false)])), (.agg (avs [(nu 0), (nu 0)]))])), ⟨[MnO737, MnO738, MnO741, MnO747, MnO748, MnO744, MnO746, MnO749, MnO750, MnO751, MnO752, MnO753, MnO754, MnO755, MnO756, MnO757, MnO758, MnO759], 249425⟩⟩
theorem MnT108 : Ent.check Tryz.prog [] 990 MnE108 = true := by kernel_rfl
theorem MnK108 : MnE108.Ok Tryz.prog := Ent.ok_of mixed Tab.ok_nil MnT108
def MnE109 : Ent := ⟨17, (.cons (.agg (avs [.nils, (.sl 249161 0 1 8 false)])) .nil), ⟨[MnO751, MnO752, MnO753, MnO754, MnO755, MnO756, MnO757, MnO758, MnO759], 249436⟩, (.tup (avs [(.agg (avs [.nils, (.sl 249451 0 1 8 false)])), (.agg (avs [(nu 0), (nu 0)]))])), ⟨[MnO751, MnO752, MnO753, MnO754, MnO755, MnO756, MnO757, MnO758, MnO759, MnO760, MnO761, MnO762, MnO763, MnO764, MnO765, MnO766, MnO767], 249765⟩⟩
theorem MnT109 : Ent.check Tryz.prog [] 990 MnE109 = true := by kernel_rfl
theorem MnK109 : MnE109.Ok Tryz.prog := Ent.ok_of mixed Tab.ok_nil MnT109
def MnE110 : Ent := ⟨20, (.cons (.agg (avs [.nils, (.sl 249161 0 1 8 false)])) (.cons .nils (.cons (nu 2000) .nil))), ⟨[MnO751, MnO752, MnO753, MnO754, MnO755, MnO756, MnO757, MnO758, MnO759], 249433⟩, (.tup (avs [(.agg (avs [(nu 1), (nu 0), (.sl 250158 0 2 1 false), (nu 10), (nu 1)])), (nu 0)])), ⟨[MnO751, MnO752, MnO753, MnO754, MnO755, MnO756, MnO757, MnO758, MnO759, MnO768, MnO769], 250219⟩⟩
theorem MnT110 : Ent.check Tryz.prog [(17, [MnE109])] 990 MnE110 = true := by kernel_rfl
theorem MnK110 : MnE110.Ok Tryz.prog := Ent.ok_of mixed (Tab.ok_cons (f := 17) (Ent.ok_cons MnK109 Ent.ok_nil) Tab.ok_nil) MnT110
end Go.Proofs.YtpepepkfjimoeaaGreat

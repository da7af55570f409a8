/- Calls that were proved one by one: what the evaluator says. -/
import Derived.Test.YtpepepkfjimoeaaGreatMfO
import Derived.Test.YtpepepkfjimoeaaGreatMfOx1
import Derived.Test.YtpepepkfjimoeaaGreatProg
import Derived.ProofKit
import Derived.Test.YtpepepkfjimoeaaGreatVh
import Derived.Test.YtpepepkfjimoeaaGreatMf8
namespace Go.Proofs.YtpepepkfjimoeaaGreat
open Go.Proofs.YtpepepkfjimoeaaGreat.Ev
set_option maxRecDepth 100000

def MfE75 : Ent := ⟨19, (.cons (.str 44 4487771075957174668725555302051759781916546937351430808898666772258393000360822687966459970421729705356905) .nil), ⟨[], 162766⟩, (.tup (avs [(.agg (avs [.nils, (.sl 183807 0 1 8 false)])), (.bool true)])), ⟨[MfO659, MfO660, MfO661, MfO662, MfO663, MfO664, MfO665, MfO666, MfO667, MfO668, MfO669], 184077⟩⟩
theorem MfT75 : Ent.check Tryz.prog [(22, [MfE69]), (87, [MfE72, MfE74])] 990 MfE75 = true := by kernel_rfl
theorem MfK75 : MfE75.Ok Tryz.prog := Ent.ok_of mixed (Tab.ok_cons (f := 22) (Ent.ok_cons MfK69 Ent.ok_nil) (Tab.ok_cons (f := 87) (Ent.ok_cons MfK72 (Ent.ok_cons MfK74 Ent.ok_nil)) Tab.ok_nil)) MfT75
def MfE76 : Ent := ⟨31, (.cons (.agg (avs [.nils, (.sl 183807 0 1 8 false)])) .nil), ⟨[MfO659, MfO660, MfO661, MfO662, MfO663, MfO664, MfO665, MfO666, MfO667, MfO668, MfO669], 184080⟩, (.bool true), ⟨[MfO659, MfO660, MfO661, MfO662, MfO663, MfO664, MfO665, MfO666, MfO667, MfO668, MfO669], 184498⟩⟩
theorem MfT76 : Ent.check Tryz.prog [] 990 MfE76 = true := by kernel_rfl
theorem MfK76 : MfE76.Ok Tryz.prog := Ent.ok_of mixed Tab.ok_nil MfT76
def MfE77 : Ent := ⟨22, (.cons (.str 55 1388909586933153929625208445153972536040301308744372733840467420227904702329894988605250393823883369067226540946279737226961033129577) .nil), ⟨[], 184797⟩, (.tup (avs [(.sl 203493 0 31 4 false), (.agg (avs [(nu 0), (nu 0)]))])), ⟨[MfO670, MfO671, MfO672, MfO673, MfO674, MfO675, MfO676, MfO677, MfO678, MfO679, MfO680, MfO681, MfO682, MfO683, MfO684, MfO685, MfO686, MfO687, MfO688, MfO689, MfO690, MfO691, MfO692, MfO693, MfO694, MfO695, MfO696, MfO697, MfO698, MfO699, MfO700], 203494⟩⟩
theorem MfT77 : Ent.check Tryz.prog [] 990 MfE77 = true := by kernel_rfl
theorem MfK77 : MfE77.Ok Tryz.prog := Ent.ok_of mixed Tab.ok_nil MfT77
def MfE78 : Ent := ⟨87, (.cons (.ptr 203495 0) (.cons (nu 2) .nil)), ⟨[MfO670, MfO671, MfO672, MfO673, MfO674, MfO675, MfO676, MfO677, MfO678, MfO679, MfO680, MfO681, MfO682, MfO683, MfO684, MfO685, MfO686, MfO687, MfO688, MfO689, MfO690, MfO691, MfO692, MfO693, MfO694, MfO695, MfO696, MfO697, MfO698, MfO699, MfO700, MfO701], 203529⟩, (.agg (avs [(nu 2), (.sl 203833 0 1 8 true), .nils, (nu 5), (nu 0), (nu 0), (.str 1 105), (nu 0), (nu 11)])), ⟨[MfO670, MfO671, MfO672, MfO673, MfO674, MfO675, MfO676, MfO677, MfO678, MfO679, MfO680, MfO681, MfO682, MfO683, MfO684, MfO685, MfO686, MfO687, MfO688, MfO689, MfO690, MfO691, MfO692, MfO693, MfO694, MfO695, MfO696, MfO697, MfO698, MfO699, MfO700, MfO702, MfO703], 203837⟩⟩
theorem MfT78 : Ent.check Tryz.prog [] 990 MfE78 = true := by kernel_rfl
theorem MfK78 : MfE78.Ok Tryz.prog := Ent.ok_of mixed Tab.ok_nil MfT78
def MfE79 : Ent := ⟨222, (.cons (.ptr 203495 0) (.cons (nu 3) .nil)), ⟨[MfO670, MfO671, MfO672, MfO673, MfO674, MfO675, MfO676, MfO677, MfO678, MfO679, MfO680, MfO681, MfO682, MfO683, MfO684, MfO685, MfO686, MfO687, MfO688, MfO689, MfO690, MfO691, MfO692, MfO693, MfO694, MfO695, MfO696, MfO697, MfO698, MfO699, MfO700, MfO704], 203911⟩, (.agg (avs [(nu 35), (nu 0), (nu 0), (nu 0), (.str 3 7632240), (nu 0), (.sl 204208 0 1 8 false), (nu 25)])), ⟨[MfO670, MfO671, MfO672, MfO673, MfO674, MfO675, MfO676, MfO677, MfO678, MfO679, MfO680, MfO681, MfO682, MfO683, MfO684, MfO685, MfO686, MfO687, MfO688, MfO689, MfO690, MfO691, MfO692, MfO693, MfO694, MfO695, MfO696, MfO697, MfO698, MfO699, MfO700, MfO705, MfO706], 204218⟩⟩
theorem MfT79 : Ent.check Tryz.prog [] 990 MfE79 = true := by kernel_rfl
theorem MfK79 : MfE79.Ok Tryz.prog := Ent.ok_of mixed Tab.ok_nil MfT79
def MfE80 : Ent := ⟨87, (.cons (.ptr 203495 0) (.cons (nu 2) .nil)), ⟨[MfO670, MfO671, MfO672, MfO673, MfO674, MfO675, MfO676, MfO677, MfO678, MfO679, MfO680, MfO681, MfO682, MfO683, MfO684, MfO685, MfO686, MfO687, MfO688, MfO689, MfO690, MfO691, MfO692, MfO693, MfO694, MfO695, MfO696, MfO697, MfO698, MfO699, MfO700, MfO704], 203869⟩, (.agg (avs [(nu 1), (.sl 204455 0 1 8 true), .nils, (nu 0), (nu 0), (nu 0), (.str 0 0), (nu 0), (nu 25)])), ⟨[MfO670, MfO671, MfO672, MfO673, MfO674, MfO675, MfO676, MfO677, MfO678, MfO679, MfO680, MfO681, MfO682, MfO683, MfO684, MfO685, MfO686, MfO687, MfO688, MfO689, MfO690, MfO691, MfO692, MfO693, MfO694, MfO695, MfO696, MfO697, MfO698, MfO699, MfO700, MfO707, MfO706, MfO708], 204459⟩⟩
theorem MfT80 : Ent.check Tryz.prog [(222, [MfE79])] 990 MfE80 = true := by kernel_rfl
theorem MfK80 : MfE80.Ok Tryz.prog := Ent.ok_of mixed (Tab.ok_cons (f := 222) (Ent.ok_cons MfK79 Ent.ok_nil) Tab.ok_nil) MfT80
def MfE81 : Ent := ⟨87, (.cons (.ptr 203495 0) (.cons (nu 2) .nil)), ⟨[MfO670, MfO671, MfO672, MfO673, MfO674, MfO675, MfO676, MfO677, MfO678, MfO679, MfO680, MfO681, MfO682, MfO683, MfO684, MfO685, MfO686, MfO687, MfO688, MfO689, MfO690, MfO691, MfO692, MfO693, MfO694, MfO695, MfO696, MfO697, MfO698, MfO699, MfO700, MfO707], 204462⟩, (.agg (avs [(nu 1), (.sl 204760 0 1 8 true), .nils, (nu 0), (nu 0), (nu 0), (.str 0 0), (nu 0), (nu 32)])), ⟨[MfO670, MfO671, MfO672, MfO673, MfO674, MfO675, MfO676, MfO677, MfO678, MfO679, MfO680, MfO681, MfO682, MfO683, MfO684, MfO685, MfO686, MfO687, MfO688, MfO689, MfO690, MfO691, MfO692, MfO693, MfO694, MfO695, MfO696, MfO697, MfO698, MfO699, MfO700, MfO709, MfO710, MfO711], 204764⟩⟩
theorem MfT81 : Ent.check Tryz.prog [] 990 MfE81 = true := by kernel_rfl
theorem MfK81 : MfE81.Ok Tryz.prog := Ent.ok_of mixed Tab.ok_nil MfT81
def MfE82 : Ent := ⟨171, (.cons (.ptr 203495 0) (.cons (nu 3) (.cons (nu 5) .nil))), ⟨[MfO670, MfO671, MfO672, MfO673, MfO674, MfO675, MfO676, MfO677, MfO678, MfO679, MfO680, MfO681, MfO682, MfO683, MfO684, MfO685, MfO686, MfO687, MfO688, MfO689, MfO690, MfO691, MfO692, MfO693, MfO694, MfO695, MfO696, MfO697, MfO698, MfO699, MfO700, MfO712], 204786⟩, (.agg (avs [(nu 22), (nu 0), (nu 0), (nu 0), (.str 0 0), (nu 0), (.sl 205017 0 2 8 true), (nu 40)])), ⟨[MfO670, MfO671, MfO672, MfO673, MfO674, MfO675, MfO676, MfO677, MfO678, MfO679, MfO680, MfO681, MfO682, MfO683, MfO684, MfO685, MfO686, MfO687, MfO688, MfO689, MfO690, MfO691, MfO692, MfO693, MfO694, MfO695, MfO696, MfO697, MfO698, MfO699, MfO700, MfO713, MfO714], 205089⟩⟩
theorem MfT82 : Ent.check Tryz.prog [] 990 MfE82 = true := by kernel_rfl
theorem MfK82 : MfE82.Ok Tryz.prog := Ent.ok_of mixed Tab.ok_nil MfT82
def MfE83 : Ent := ⟨48, (.cons (.ptr 203495 0) (.cons (nu 1) .nil)), ⟨[MfO670, MfO671, MfO672, MfO673, MfO674, MfO675, MfO676, MfO677, MfO678, MfO679, MfO680, MfO681, MfO682, MfO683, MfO684, MfO685, MfO686, MfO687, MfO688, MfO689, MfO690, MfO691, MfO692, MfO693, MfO694, MfO695, MfO696, MfO697, MfO698, MfO699, MfO700, MfO715], 203525⟩, (.sl 205250 0 5 9 false), ⟨[MfO670, MfO671, MfO672, MfO673, MfO674, MfO675, MfO676, MfO677, MfO678, MfO679, MfO680, MfO681, MfO682, MfO683, MfO684, MfO685, MfO686, MfO687, MfO688, MfO689, MfO690, MfO691, MfO692, MfO693, MfO694, MfO695, MfO696, MfO697, MfO698, MfO699, MfO700, MfO716, MfO703, MfO717, MfO718, MfO706, MfO708, MfO719, MfO710, MfO711, MfO720, MfO714, MfO721, MfO722, MfO723], 205255⟩⟩
theorem MfT83 : Ent.check Tryz.prog [(87, [MfE78, MfE80, MfE81]), (171, [MfE82])] 990 MfE83 = true := by kernel_rfl
theorem MfK83 : MfE83.Ok Tryz.prog := Ent.ok_of mixed (Tab.ok_cons (f := 87) (Ent.ok_cons MfK78 (Ent.ok_cons MfK80 (Ent.ok_cons MfK81 Ent.ok_nil))) (Tab.ok_cons (f := 171) (Ent.ok_cons MfK82 Ent.ok_nil) Tab.ok_nil)) MfT83
end Go.Proofs.YtpepepkfjimoeaaGreat

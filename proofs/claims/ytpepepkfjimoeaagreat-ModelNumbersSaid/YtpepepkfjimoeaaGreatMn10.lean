/- Calls that were proved one by one: what the evaluator says. -/
import Derived.Test.YtpepepkfjimoeaaGreatMnO
import Derived.Test.YtpepepkfjimoeaaGreatMnOx1
import Derived.Test.YtpepepkfjimoeaaGreatProg
import Derived.ProofKit
import Derived.Test.YtpepepkfjimoeaaGreatVh
import Derived.Test.YtpepepkfjimoeaaGreatMn9
namespace Go.Proofs.YtpepepkfjimoeaaGreat
open Go.Proofs.YtpepepkfjimoeaaGreat.Ev
set_option maxRecDepth 100000

def MnE94 : Ent := ⟨67, (.cons (.ptr 211400 0) (.cons (.sl 211315 0 3 9 false) .nil)), ⟨[MnO642, MnO643, MnO644, MnO645, MnO646, MnO647, MnO648, MnO649, MnO650, MnO651, MnO652, MnO653, MnO654, MnO655, MnO656], 211422⟩, (.tup (avs [])), ⟨[MnO657, MnO643, MnO644, MnO645, MnO646, MnO647, MnO648, MnO649, MnO650, MnO651, MnO652, MnO658, MnO659, MnO655, MnO656, MnO660], 211793⟩⟩
theorem MnT94 : Ent.check Tryz.prog [] 990 MnE94 = true := by kernel_rfl
theorem MnK94 : MnE94.Ok Tryz.prog := Ent.ok_of mixed Tab.ok_nil MnT94
def MnE95 : Ent := ⟨34, (.cons (.ptr 211873 0) (.cons (.ptr 210831 0) (.cons .nils .nil))), ⟨[MnO627, MnO628, MnO629, MnO630, MnO631, MnO632, MnO633, MnO634, MnO635, MnO636, MnO637, MnO641, MnO661], 211874⟩, (.tup (avs [(.agg (avs [(nu 0), (nu 0)])), (.bool true)])), ⟨[MnO627, MnO628, MnO629, MnO630, MnO631, MnO632, MnO633, MnO634, MnO635, MnO636, MnO637, MnO641, MnO662, MnO663, MnO664, MnO665, MnO666, MnO667, MnO668, MnO669], 212469⟩⟩
theorem MnT95 : Ent.check Tryz.prog [] 990 MnE95 = true := by kernel_rfl
theorem MnK95 : MnE95.Ok Tryz.prog := Ent.ok_of mixed Tab.ok_nil MnT95
def MnE96 : Ent := ⟨13, (.cons (.str 49 4934356584328666464000051531896995782056073011195174980391446500511048762460473671979999596662642059188233869683093097) (.cons .nils .nil)), ⟨[], 190166⟩, (.agg (avs [(nu 1), (nu 0), (.sl 212421 0 2 1 false), (nu 16), (nu 1)])), ⟨[MnO668, MnO669], 212483⟩⟩
theorem MnT96 : Ent.check Tryz.prog [(22, [MnE86]), (48, [MnE92]), (105, [MnE93]), (67, [MnE94]), (34, [MnE95])] 990 MnE96 = true := by kernel_rfl
theorem MnK96 : MnE96.Ok Tryz.prog := Ent.ok_of mixed (Tab.ok_cons (f := 22) (Ent.ok_cons MnK86 Ent.ok_nil) (Tab.ok_cons (f := 48) (Ent.ok_cons MnK92 Ent.ok_nil) (Tab.ok_cons (f := 105) (Ent.ok_cons MnK93 Ent.ok_nil) (Tab.ok_cons (f := 67) (Ent.ok_cons MnK94 Ent.ok_nil) (Tab.ok_cons (f := 34) (Ent.ok_cons MnK95 Ent.ok_nil) Tab.ok_nil))))) MnT96
def MnE97 : Ent := ⟨22, (.cons (.str 40 1044890626707810535160358987676495118264137556021875607414518591374615697412519560506590721502825) .nil), ⟨[], 212524⟩, (.tup (avs [(.sl 225489 0 21 4 false), (.agg (avs [(nu 0), (nu 0)]))])), ⟨[MnO670, MnO671, MnO672, MnO673, MnO674, MnO675, MnO676, MnO677, MnO678, MnO679, MnO680, MnO681, MnO682, MnO683, MnO684, MnO685, MnO686, MnO687, MnO688, MnO689, MnO690], 225490⟩⟩
theorem MnT97 : Ent.check Tryz.prog [] 990 MnE97 = true := by kernel_rfl
theorem MnK97 : MnE97.Ok Tryz.prog := Ent.ok_of mixed Tab.ok_nil MnT97
def MnE98 : Ent := ⟨87, (.cons (.ptr 225491 0) (.cons (nu 2) .nil)), ⟨[MnO670, MnO671, MnO672, MnO673, MnO674, MnO675, MnO676, MnO677, MnO678, MnO679, MnO680, MnO681, MnO682, MnO683, MnO684, MnO685, MnO686, MnO687, MnO688, MnO689, MnO690, MnO691], 225525⟩, (.agg (avs [(nu 2), (.sl 225840 0 1 8 true), .nils, (nu 8), (nu 0), (nu 0), (.str 1 97), (nu 0), (nu 11)])), ⟨[MnO670, MnO671, MnO672, MnO673, MnO674, MnO675, MnO676, MnO677, MnO678, MnO679, MnO680, MnO681, MnO682, MnO683, MnO684, MnO685, MnO686, MnO687, MnO688, MnO689, MnO690, MnO692, MnO693, MnO694], 225844⟩⟩
theorem MnT98 : Ent.check Tryz.prog [] 990 MnE98 = true := by kernel_rfl
theorem MnK98 : MnE98.Ok Tryz.prog := Ent.ok_of mixed Tab.ok_nil MnT98
def MnE99 : Ent := ⟨171, (.cons (.ptr 225491 0) (.cons (nu 4) (.cons (nu 2) .nil))), ⟨[MnO670, MnO671, MnO672, MnO673, MnO674, MnO675, MnO676, MnO677, MnO678, MnO679, MnO680, MnO681, MnO682, MnO683, MnO684, MnO685, MnO686, MnO687, MnO688, MnO689, MnO690, MnO695], 225914⟩, (.agg (avs [(nu 16), (nu 0), (nu 0), (nu 0), (.str 0 0), (nu 0), (.sl 226007 0 2 8 true), (nu 35)])), ⟨[MnO670, MnO671, MnO672, MnO673, MnO674, MnO675, MnO676, MnO677, MnO678, MnO679, MnO680, MnO681, MnO682, MnO683, MnO684, MnO685, MnO686, MnO687, MnO688, MnO689, MnO690, MnO696, MnO697], 226217⟩⟩
theorem MnT99 : Ent.check Tryz.prog [] 990 MnE99 = true := by kernel_rfl
theorem MnK99 : MnE99.Ok Tryz.prog := Ent.ok_of mixed Tab.ok_nil MnT99
def MnE100 : Ent := ⟨171, (.cons (.ptr 225491 0) (.cons (nu 3) (.cons (nu 0) .nil))), ⟨[MnO670, MnO671, MnO672, MnO673, MnO674, MnO675, MnO676, MnO677, MnO678, MnO679, MnO680, MnO681, MnO682, MnO683, MnO684, MnO685, MnO686, MnO687, MnO688, MnO689, MnO690, MnO692], 225865⟩, (.agg (avs [(nu 35), (nu 0), (nu 0), (nu 0), (.str 3 7632240), (nu 0), (.sl 226270 0 1 8 false), (nu 30)])), ⟨[MnO670, MnO671, MnO672, MnO673, MnO674, MnO675, MnO676, MnO677, MnO678, MnO679, MnO680, MnO681, MnO682, MnO683, MnO684, MnO685, MnO686, MnO687, MnO688, MnO689, MnO690, MnO698, MnO697, MnO699], 226510⟩⟩
theorem MnT100 : Ent.check Tryz.prog [(171, [MnE99])] 990 MnE100 = true := by kernel_rfl
theorem MnK100 : MnE100.Ok Tryz.prog := Ent.ok_of mixed (Tab.ok_cons (f := 171) (Ent.ok_cons MnK99 Ent.ok_nil) Tab.ok_nil) MnT100
def MnE101 : Ent := ⟨19, (.cons (.str 40 1044890626707810535160358987676495118264137556021875607414518591374615697412519560506590721502825) .nil), ⟨[], 212521⟩, (.tup (avs [(.agg (avs [.nils, (.sl 226593 0 1 8 false)])), (.bool true)])), ⟨[MnO700, MnO701, MnO702, MnO703, MnO704, MnO705, MnO706, MnO707], 226905⟩⟩
theorem MnT101 : Ent.check Tryz.prog [(22, [MnE97]), (87, [MnE98]), (171, [MnE100])] 990 MnE101 = true := by kernel_rfl
theorem MnK101 : MnE101.Ok Tryz.prog := Ent.ok_of mixed (Tab.ok_cons (f := 22) (Ent.ok_cons MnK97 Ent.ok_nil) (Tab.ok_cons (f := 87) (Ent.ok_cons MnK98 Ent.ok_nil) (Tab.ok_cons (f := 171) (Ent.ok_cons MnK100 Ent.ok_nil) Tab.ok_nil))) MnT101
def MnE102 : Ent := ⟨31, (.cons (.agg (avs [.nils, (.sl 226593 0 1 8 false)])) .nil), ⟨[MnO700, MnO701, MnO702, MnO703, MnO704, MnO705, MnO706, MnO707], 226908⟩, (.bool true), ⟨[MnO700, MnO701, MnO702, MnO703, MnO704, MnO705, MnO706, MnO707], 227342⟩⟩
theorem MnT102 : Ent.check Tryz.prog [] 990 MnE102 = true := by kernel_rfl
theorem MnK102 : MnE102.Ok Tryz.prog := Ent.ok_of mixed Tab.ok_nil MnT102
end Go.Proofs.YtpepepkfjimoeaaGreat

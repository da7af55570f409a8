/- Calls that were proved one by one: what the evaluator says. -/
import Derived.Test.YtpepepkfjimoeaaGreatMpO
import Derived.Test.YtpepepkfjimoeaaGreatMpOx1
import Derived.Test.YtpepepkfjimoeaaGreatProg
import Derived.ProofKit
import Derived.Test.YtpepepkfjimoeaaGreatVh
namespace Go.Proofs.YtpepepkfjimoeaaGreat
open Go.Proofs.YtpepepkfjimoeaaGreat.Ev
set_option maxRecDepth 100000

def MpE109 : Ent := ⟨20, (.cons (.agg (avs [.nils, (.sl 265557 0 1 8 false)])) (.cons .nils (.cons (nu 2000) .nil))), ⟨[MpO1068, MpO1069, MpO1070, MpO1071, MpO1072, MpO1073], 265909⟩, (.tup (avs [(.agg (avs [(nu 3), (nu 0), .nils, (nu 0), (nu 0)])), (nu 0)])), ⟨[MpO1068, MpO1069, MpO1070, MpO1071, MpO1072, MpO1073], 266697⟩⟩
theorem MpT109 : Ent.check Tryz.prog [] 990 MpE109 = true := by kernel_rfl
theorem MpK109 : MpE109.Ok Tryz.prog := Ent.ok_of mixed Tab.ok_nil MpT109
def MpE110 : Ent := ⟨22, (.cons (.str 31 221264465657469463704081708270138375854242741310050605205423166185425628777) .nil), ⟨[], 266704⟩, (.tup (avs [(.sl 279735 0 21 4 false), (.agg (avs [(nu 0), (nu 0)]))])), ⟨[MpO1074, MpO1075, MpO1076, MpO1077, MpO1078, MpO1079, MpO1080, MpO1081, MpO1082, MpO1083, MpO1084, MpO1085, MpO1086, MpO1087, MpO1088, MpO1089, MpO1090, MpO1091, MpO1092, MpO1093, MpO1094], 279736⟩⟩
theorem MpT110 : Ent.check Tryz.prog [] 990 MpE110 = true := by kernel_rfl
theorem MpK110 : MpE110.Ok Tryz.prog := Ent.ok_of mixed Tab.ok_nil MpT110
def MpE111 : Ent := ⟨171, (.cons (.ptr 279737 0) (.cons (nu 3) (.cons (nu 3) .nil))), ⟨[MpO1074, MpO1075, MpO1076, MpO1077, MpO1078, MpO1079, MpO1080, MpO1081, MpO1082, MpO1083, MpO1084, MpO1085, MpO1086, MpO1087, MpO1088, MpO1089, MpO1090, MpO1091, MpO1092, MpO1093, MpO1094, MpO1095], 279851⟩, (.agg (avs [(nu 18), (nu 0), (nu 0), (nu 0), (.str 0 0), (nu 0), (.sl 279990 0 2 8 true), (nu 27)])), ⟨[MpO1074, MpO1075, MpO1076, MpO1077, MpO1078, MpO1079, MpO1080, MpO1081, MpO1082, MpO1083, MpO1084, MpO1085, MpO1086, MpO1087, MpO1088, MpO1089, MpO1090, MpO1091, MpO1092, MpO1093, MpO1094, MpO1096, MpO1097], 280154⟩⟩
theorem MpT111 : Ent.check Tryz.prog [] 990 MpE111 = true := by kernel_rfl
theorem MpK111 : MpE111.Ok Tryz.prog := Ent.ok_of mixed Tab.ok_nil MpT111
def MpE112 : Ent := ⟨48, (.cons (.ptr 279737 0) (.cons (nu 1) .nil)), ⟨[MpO1074, MpO1075, MpO1076, MpO1077, MpO1078, MpO1079, MpO1080, MpO1081, MpO1082, MpO1083, MpO1084, MpO1085, MpO1086, MpO1087, MpO1088, MpO1089, MpO1090, MpO1091, MpO1092, MpO1093, MpO1094, MpO1098], 279767⟩, (.sl 280235 0 2 9 false), ⟨[MpO1074, MpO1075, MpO1076, MpO1077, MpO1078, MpO1079, MpO1080, MpO1081, MpO1082, MpO1083, MpO1084, MpO1085, MpO1086, MpO1087, MpO1088, MpO1089, MpO1090, MpO1091, MpO1092, MpO1093, MpO1094, MpO1099, MpO1100, MpO1097, MpO1101, MpO1102], 280240⟩⟩
theorem MpT112 : Ent.check Tryz.prog [(171, [MpE111])] 990 MpE112 = true := by kernel_rfl
theorem MpK112 : MpE112.Ok Tryz.prog := Ent.ok_of mixed (Tab.ok_cons (f := 171) (Ent.ok_cons MpK111 Ent.ok_nil) Tab.ok_nil) MpT112
def MpE113 : Ent := ⟨19, (.cons (.str 31 221264465657469463704081708270138375854242741310050605205423166185425628777) .nil), ⟨[], 266701⟩, (.tup (avs [(.agg (avs [.nils, (.sl 280291 0 1 8 false)])), (.bool true)])), ⟨[MpO1103, MpO1104, MpO1105, MpO1106, MpO1107, MpO1108], 280642⟩⟩
theorem MpT113 : Ent.check Tryz.prog [(22, [MpE110]), (48, [MpE112])] 990 MpE113 = true := by kernel_rfl
theorem MpK113 : MpE113.Ok Tryz.prog := Ent.ok_of mixed (Tab.ok_cons (f := 22) (Ent.ok_cons MpK110 Ent.ok_nil) (Tab.ok_cons (f := 48) (Ent.ok_cons MpK112 Ent.ok_nil) Tab.ok_nil)) MpT113
def MpE114 : Ent := ⟨20, (.cons (.agg (avs [.nils, (.sl 280291 0 1 8 false)])) (.cons .nils (.cons (nu 2000) .nil))), ⟨[MpO1103, MpO1104, MpO1105, MpO1106, MpO1107, MpO1108], 280643⟩, (.tup (avs [(.agg (avs [(nu 3), (nu 0), .nils, (nu 0), (nu 0)])), (nu 0)])), ⟨[MpO1103, MpO1104, MpO1105, MpO1106, MpO1107, MpO1108], 281429⟩⟩
theorem MpT114 : Ent.check Tryz.prog [] 990 MpE114 = true := by kernel_rfl
theorem MpK114 : MpE114.Ok Tryz.prog := Ent.ok_of mixed Tab.ok_nil MpT114
end Go.Proofs.YtpepepkfjimoeaaGreat

/- Calls that were proved one by one: what the evaluator says. -/
import Derived.Test.YtpepepkfjimoeaaGreatMfO
import Derived.Test.YtpepepkfjimoeaaGreatMfOx1
import Derived.Test.YtpepepkfjimoeaaGreatProg
import Derived.ProofKit
import Derived.Test.YtpepepkfjimoeaaGreatVh
namespace Go.Proofs.YtpepepkfjimoeaaGreat
open Go.Proofs.YtpepepkfjimoeaaGreat.Ev
set_option maxRecDepth 100000

def MfE125 : Ent := ⟨22, (.cons (.str 34 3712197224196768066636434907203370126640536056825238574490032978102365030601485929) .nil), ⟨[], 293677⟩, (.tup (avs [(.sl 311123 0 25 4 false), (.agg (avs [(nu 0), (nu 0)]))])), ⟨[MfO1113, MfO1114, MfO1115, MfO1116, MfO1117, MfO1118, MfO1119, MfO1120, MfO1121, MfO1122, MfO1123, MfO1124, MfO1125, MfO1126, MfO1127, MfO1128, MfO1129, MfO1130, MfO1131, MfO1132, MfO1133, MfO1134, MfO1135, MfO1136, MfO1137], 311124⟩⟩
theorem MfT125 : Ent.check Tryz.prog [] 990 MfE125 = true := by kernel_rfl
theorem MfK125 : MfE125.Ok Tryz.prog := Ent.ok_of mixed Tab.ok_nil MfT125
def MfE126 : Ent := ⟨137, (.cons (.ptr 311125 0) (.cons (nu 4) .nil)), ⟨[MfO1113, MfO1114, MfO1115, MfO1116, MfO1117, MfO1118, MfO1119, MfO1120, MfO1121, MfO1122, MfO1123, MfO1124, MfO1125, MfO1126, MfO1127, MfO1128, MfO1129, MfO1130, MfO1131, MfO1132, MfO1133, MfO1134, MfO1135, MfO1136, MfO1137, MfO1138], 311223⟩, (.agg (avs [(nu 33), (nu 0), (nu 0), (nu 0), (.str 0 0), (nu 0), (.sl 312042 0 3 8 true), (nu 16)])), ⟨[MfO1113, MfO1114, MfO1115, MfO1116, MfO1117, MfO1118, MfO1119, MfO1120, MfO1121, MfO1122, MfO1123, MfO1124, MfO1125, MfO1126, MfO1127, MfO1128, MfO1129, MfO1130, MfO1131, MfO1132, MfO1133, MfO1134, MfO1135, MfO1136, MfO1137, MfO1139, MfO1140], 312043⟩⟩
theorem MfT126 : Ent.check Tryz.prog [] 990 MfE126 = true := by kernel_rfl
theorem MfK126 : MfE126.Ok Tryz.prog := Ent.ok_of mixed Tab.ok_nil MfT126
def MfE127 : Ent := ⟨114, (.cons (.ptr 311125 0) (.cons (nu 3) .nil)), ⟨[MfO1113, MfO1114, MfO1115, MfO1116, MfO1117, MfO1118, MfO1119, MfO1120, MfO1121, MfO1122, MfO1123, MfO1124, MfO1125, MfO1126, MfO1127, MfO1128, MfO1129, MfO1130, MfO1131, MfO1132, MfO1133, MfO1134, MfO1135, MfO1136, MfO1137, MfO1141], 311175⟩, (.agg (avs [(nu 35), (nu 0), (nu 0), (nu 0), (.str 3 7632240), (nu 0), (.sl 312047 0 1 8 false), (nu 11)])), ⟨[MfO1113, MfO1114, MfO1115, MfO1116, MfO1117, MfO1118, MfO1119, MfO1120, MfO1121, MfO1122, MfO1123, MfO1124, MfO1125, MfO1126, MfO1127, MfO1128, MfO1129, MfO1130, MfO1131, MfO1132, MfO1133, MfO1134, MfO1135, MfO1136, MfO1137, MfO1142, MfO1140, MfO1143], 312294⟩⟩
theorem MfT127 : Ent.check Tryz.prog [(137, [MfE126])] 990 MfE127 = true := by kernel_rfl
theorem MfK127 : MfE127.Ok Tryz.prog := Ent.ok_of mixed (Tab.ok_cons (f := 137) (Ent.ok_cons MfK126 Ent.ok_nil) Tab.ok_nil) MfT127
def MfE128 : Ent := ⟨137, (.cons (.ptr 311125 0) (.cons (nu 4) .nil)), ⟨[MfO1113, MfO1114, MfO1115, MfO1116, MfO1117, MfO1118, MfO1119, MfO1120, MfO1121, MfO1122, MfO1123, MfO1124, MfO1125, MfO1126, MfO1127, MfO1128, MfO1129, MfO1130, MfO1131, MfO1132, MfO1133, MfO1134, MfO1135, MfO1136, MfO1137, MfO1144], 312365⟩, (.agg (avs [(nu 33), (nu 0), (nu 0), (nu 0), (.str 0 0), (nu 0), (.sl 313184 0 3 8 true), (nu 27)])), ⟨[MfO1113, MfO1114, MfO1115, MfO1116, MfO1117, MfO1118, MfO1119, MfO1120, MfO1121, MfO1122, MfO1123, MfO1124, MfO1125, MfO1126, MfO1127, MfO1128, MfO1129, MfO1130, MfO1131, MfO1132, MfO1133, MfO1134, MfO1135, MfO1136, MfO1137, MfO1145, MfO1146], 313185⟩⟩
theorem MfT128 : Ent.check Tryz.prog [] 990 MfE128 = true := by kernel_rfl
theorem MfK128 : MfE128.Ok Tryz.prog := Ent.ok_of mixed Tab.ok_nil MfT128
def MfE129 : Ent := ⟨114, (.cons (.ptr 311125 0) (.cons (nu 3) .nil)), ⟨[MfO1113, MfO1114, MfO1115, MfO1116, MfO1117, MfO1118, MfO1119, MfO1120, MfO1121, MfO1122, MfO1123, MfO1124, MfO1125, MfO1126, MfO1127, MfO1128, MfO1129, MfO1130, MfO1131, MfO1132, MfO1133, MfO1134, MfO1135, MfO1136, MfO1137, MfO1147], 312317⟩, (.agg (avs [(nu 35), (nu 0), (nu 0), (nu 0), (.str 3 7632240), (nu 0), (.sl 313189 0 1 8 false), (nu 22)])), ⟨[MfO1113, MfO1114, MfO1115, MfO1116, MfO1117, MfO1118, MfO1119, MfO1120, MfO1121, MfO1122, MfO1123, MfO1124, MfO1125, MfO1126, MfO1127, MfO1128, MfO1129, MfO1130, MfO1131, MfO1132, MfO1133, MfO1134, MfO1135, MfO1136, MfO1137, MfO1148, MfO1146, MfO1149], 313436⟩⟩
theorem MfT129 : Ent.check Tryz.prog [(137, [MfE128])] 990 MfE129 = true := by kernel_rfl
theorem MfK129 : MfE129.Ok Tryz.prog := Ent.ok_of mixed (Tab.ok_cons (f := 137) (Ent.ok_cons MfK128 Ent.ok_nil) Tab.ok_nil) MfT129
def MfE130 : Ent := ⟨30, (.cons (.agg (avs [.nils, (.sl 313459 0 1 8 false)])) .nil), ⟨[MfO1140, MfO1143, MfO1150, MfO1151, MfO1146, MfO1149, MfO1152, MfO1153, MfO1154], 313462⟩, (.tup (avs [(.agg (avs [.nils, (.sl 313532 0 1 8 false)])), (.agg (avs [(nu 0), (nu 0)]))])), ⟨[MfO1140, MfO1143, MfO1150, MfO1151, MfO1146, MfO1149, MfO1152, MfO1153, MfO1154, MfO1155, MfO1156, MfO1157, MfO1158, MfO1159, MfO1160, MfO1161, MfO1162, MfO1163], 313793⟩⟩
theorem MfT130 : Ent.check Tryz.prog [] 990 MfE130 = true := by kernel_rfl
theorem MfK130 : MfE130.Ok Tryz.prog := Ent.ok_of mixed Tab.ok_nil MfT130
def MfE131 : Ent := ⟨17, (.cons (.agg (avs [.nils, (.sl 313532 0 1 8 false)])) .nil), ⟨[MfO1155, MfO1156, MfO1157, MfO1158, MfO1159, MfO1160, MfO1161, MfO1162, MfO1163], 313804⟩, (.tup (avs [(.agg (avs [.nils, (.sl 313819 0 1 8 false)])), (.agg (avs [(nu 0), (nu 0)]))])), ⟨[MfO1155, MfO1156, MfO1157, MfO1158, MfO1159, MfO1160, MfO1161, MfO1162, MfO1163, MfO1164, MfO1165, MfO1166, MfO1167, MfO1168, MfO1169, MfO1170, MfO1171], 314107⟩⟩
theorem MfT131 : Ent.check Tryz.prog [] 990 MfE131 = true := by kernel_rfl
theorem MfK131 : MfE131.Ok Tryz.prog := Ent.ok_of mixed Tab.ok_nil MfT131
def MfE132 : Ent := ⟨13, (.cons (.str 34 3712197224196768066636434907203370126640536056825238574490032978102365030601485929) (.cons .nils .nil)), ⟨[], 293673⟩, (.agg (avs [(nu 1), (nu 0), (.sl 314400 0 2 1 false), (nu 10), (nu 1)])), ⟨[MfO1172, MfO1173], 314462⟩⟩
theorem MfT132 : Ent.check Tryz.prog [(22, [MfE125]), (114, [MfE127, MfE129]), (30, [MfE130]), (17, [MfE131])] 990 MfE132 = true := by kernel_rfl
theorem MfK132 : MfE132.Ok Tryz.prog := Ent.ok_of mixed (Tab.ok_cons (f := 22) (Ent.ok_cons MfK125 Ent.ok_nil) (Tab.ok_cons (f := 114) (Ent.ok_cons MfK127 (Ent.ok_cons MfK129 Ent.ok_nil)) (Tab.ok_cons (f := 30) (Ent.ok_cons MfK130 Ent.ok_nil) (Tab.ok_cons (f := 17) (Ent.ok_cons MfK131 Ent.ok_nil) Tab.ok_nil)))) MfT132
end Go.Proofs.YtpepepkfjimoeaaGreat

/- Calls that were proved one by one: what the evaluator says. -/
import Derived.Test.YtpepepkfjimoeaaGreatMpO
import Derived.Test.YtpepepkfjimoeaaGreatMpOx1
import Derived.Test.YtpepepkfjimoeaaGreatProg
import Derived.ProofKit
import Derived.Test.YtpepepkfjimoeaaGreatVh
namespace Go.Proofs.YtpepepkfjimoeaaGreat
open Go.Proofs.YtpepepkfjimoeaaGreat.Ev
set_option maxRecDepth 100000

def MpE121 : Ent := ⟨22, (.cons (.str 37 62280766827216864611702481001540666489121302170465849834944368223470738835728622511484521) .nil), ⟨[], 302890⟩, (.tup (avs [(.sl 314643 0 20 4 false), (.agg (avs [(nu 0), (nu 0)]))])), ⟨[MpO1158, MpO1159, MpO1160, MpO1161, MpO1162, MpO1163, MpO1164, MpO1165, MpO1166, MpO1167, MpO1168, MpO1169, MpO1170, MpO1171, MpO1172, MpO1173, MpO1174, MpO1175, MpO1176, MpO1177], 314644⟩⟩
theorem MpT121 : Ent.check Tryz.prog [] 990 MpE121 = true := by kernel_rfl
theorem MpK121 : MpE121.Ok Tryz.prog := Ent.ok_of mixed Tab.ok_nil MpT121
def MpE122 : Ent := ⟨171, (.cons (.ptr 314645 0) (.cons (nu 3) (.cons (nu 6) .nil))), ⟨[MpO1158, MpO1159, MpO1160, MpO1161, MpO1162, MpO1163, MpO1164, MpO1165, MpO1166, MpO1167, MpO1168, MpO1169, MpO1170, MpO1171, MpO1172, MpO1173, MpO1174, MpO1175, MpO1176, MpO1177, MpO1178], 314774⟩, (.agg (avs [(nu 22), (nu 0), (nu 0), (nu 0), (.str 0 0), (nu 0), (.sl 315030 0 2 8 true), (nu 32)])), ⟨[MpO1158, MpO1159, MpO1160, MpO1161, MpO1162, MpO1163, MpO1164, MpO1165, MpO1166, MpO1167, MpO1168, MpO1169, MpO1170, MpO1171, MpO1172, MpO1173, MpO1174, MpO1175, MpO1176, MpO1177, MpO1179, MpO1180, MpO1181, MpO1182], 315079⟩⟩
theorem MpT122 : Ent.check Tryz.prog [] 990 MpE122 = true := by kernel_rfl
theorem MpK122 : MpE122.Ok Tryz.prog := Ent.ok_of mixed Tab.ok_nil MpT122
def MpE123 : Ent := ⟨48, (.cons (.ptr 314645 0) (.cons (nu 1) .nil)), ⟨[MpO1158, MpO1159, MpO1160, MpO1161, MpO1162, MpO1163, MpO1164, MpO1165, MpO1166, MpO1167, MpO1168, MpO1169, MpO1170, MpO1171, MpO1172, MpO1173, MpO1174, MpO1175, MpO1176, MpO1177, MpO1183], 314675⟩, (.sl 315229 0 3 9 false), ⟨[MpO1158, MpO1159, MpO1160, MpO1161, MpO1162, MpO1163, MpO1164, MpO1165, MpO1166, MpO1167, MpO1168, MpO1169, MpO1170, MpO1171, MpO1172, MpO1173, MpO1174, MpO1175, MpO1176, MpO1177, MpO1184, MpO1185, MpO1186, MpO1180, MpO1181, MpO1182, MpO1187, MpO1188], 315234⟩⟩
theorem MpT123 : Ent.check Tryz.prog [(171, [MpE122])] 990 MpE123 = true := by kernel_rfl
theorem MpK123 : MpE123.Ok Tryz.prog := Ent.ok_of mixed (Tab.ok_cons (f := 171) (Ent.ok_cons MpK122 Ent.ok_nil) Tab.ok_nil) MpT123
def MpE124 : Ent := ⟨19, (.cons (.str 37 62280766827216864611702481001540666489121302170465849834944368223470738835728622511484521) .nil), ⟨[], 302887⟩, (.tup (avs [(.agg (avs [.nils, (.sl 315300 0 1 8 false)])), (.bool true)])), ⟨[MpO1189, MpO1190, MpO1191, MpO1192, MpO1193, MpO1194, MpO1195, MpO1196], 315780⟩⟩
theorem MpT124 : Ent.check Tryz.prog [(22, [MpE121]), (48, [MpE123])] 990 MpE124 = true := by kernel_rfl
theorem MpK124 : MpE124.Ok Tryz.prog := Ent.ok_of mixed (Tab.ok_cons (f := 22) (Ent.ok_cons MpK121 Ent.ok_nil) (Tab.ok_cons (f := 48) (Ent.ok_cons MpK123 Ent.ok_nil) Tab.ok_nil)) MpT124
def MpE125 : Ent := ⟨31, (.cons (.agg (avs [.nils, (.sl 315300 0 1 8 false)])) .nil), ⟨[MpO1189, MpO1190, MpO1191, MpO1192, MpO1193, MpO1194, MpO1195, MpO1196], 315783⟩, (.bool true), ⟨[MpO1189, MpO1190, MpO1191, MpO1192, MpO1193, MpO1194, MpO1195, MpO1196], 316353⟩⟩
theorem MpT125 : Ent.check Tryz.prog [] 990 MpE125 = true := by kernel_rfl
theorem MpK125 : MpE125.Ok Tryz.prog := Ent.ok_of mixed Tab.ok_nil MpT125
def MpE126 : Ent := ⟨22, (.cons (.str 25 786088334849289020395588525275803058793124083928108341948009) .nil), ⟨[], 316769⟩, (.tup (avs [(.sl 331265 0 17 4 false), (.agg (avs [(nu 0), (nu 0)]))])), ⟨[MpO1197, MpO1198, MpO1199, MpO1200, MpO1201, MpO1202, MpO1203, MpO1204, MpO1205, MpO1206, MpO1207, MpO1208, MpO1209, MpO1210, MpO1211, MpO1212, MpO1213], 331266⟩⟩
theorem MpT126 : Ent.check Tryz.prog [] 990 MpE126 = true := by kernel_rfl
theorem MpK126 : MpE126.Ok Tryz.prog := Ent.ok_of mixed Tab.ok_nil MpT126
def MpE127 : Ent := ⟨87, (.cons (.ptr 331267 0) (.cons (nu 2) .nil)), ⟨[MpO1197, MpO1198, MpO1199, MpO1200, MpO1201, MpO1202, MpO1203, MpO1204, MpO1205, MpO1206, MpO1207, MpO1208, MpO1209, MpO1210, MpO1211, MpO1212, MpO1213, MpO1214, MpO1215], 331351⟩, (.agg (avs [(nu 1), (.sl 331648 0 1 8 true), .nils, (nu 0), (nu 0), (nu 0), (.str 0 0), (nu 0), (nu 20)])), ⟨[MpO1197, MpO1198, MpO1199, MpO1200, MpO1201, MpO1202, MpO1203, MpO1204, MpO1205, MpO1206, MpO1207, MpO1208, MpO1209, MpO1210, MpO1211, MpO1212, MpO1213, MpO1216, MpO1215, MpO1217], 331652⟩⟩
theorem MpT127 : Ent.check Tryz.prog [] 990 MpE127 = true := by kernel_rfl
theorem MpK127 : MpE127.Ok Tryz.prog := Ent.ok_of mixed Tab.ok_nil MpT127
end Go.Proofs.YtpepepkfjimoeaaGreat

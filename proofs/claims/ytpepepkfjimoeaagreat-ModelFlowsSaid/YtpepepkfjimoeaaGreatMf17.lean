/- Calls that were proved one by one: what the evaluator says. -/
import Derived.Test.YtpepepkfjimoeaaGreatMfO
import Derived.Test.YtpepepkfjimoeaaGreatMfOx1
import Derived.Test.YtpepepkfjimoeaaGreatProg
import Derived.ProofKit
import Derived.Test.YtpepepkfjimoeaaGreatVh
import Derived.Test.YtpepepkfjimoeaaGreatMf16
namespace Go.Proofs.YtpepepkfjimoeaaGreat
open Go.Proofs.YtpepepkfjimoeaaGreat.Ev
set_option maxRecDepth 100000

def MfE143 : Ent := ⟨20, (.cons (.agg (avs [.nils, (.sl 337020 0 1 8 false)])) (.cons .nils (.cons (nu 2000) .nil))), ⟨[MfO1226, MfO1227, MfO1228, MfO1229, MfO1230, MfO1231, MfO1232, MfO1233, MfO1234, MfO1235, MfO1236, MfO1237, MfO1238], 337361⟩, (.tup (avs [(.agg (avs [(nu 1), (nu 0), (.sl 338208 0 1 1 false), (nu 11), (nu 1)])), (nu 0)])), ⟨[MfO1226, MfO1227, MfO1228, MfO1229, MfO1230, MfO1231, MfO1232, MfO1233, MfO1234, MfO1235, MfO1236, MfO1237, MfO1238, MfO1251], 338269⟩⟩
theorem MfT143 : Ent.check Tryz.prog [(17, [MfE142])] 990 MfE143 = true := by kernel_rfl
theorem MfK143 : MfE143.Ok Tryz.prog := Ent.ok_of mixed (Tab.ok_cons (f := 17) (Ent.ok_cons MfK142 Ent.ok_nil) Tab.ok_nil) MfT143
def MfE144 : Ent := ⟨22, (.cons (.str 34 3712197220540627572645522753659692954191434029880853893120516924228439587624873577) .nil), ⟨[], 338302⟩, (.tup (avs [(.sl 356373 0 21 4 false), (.agg (avs [(nu 0), (nu 0)]))])), ⟨[MfO1252, MfO1253, MfO1254, MfO1255, MfO1256, MfO1257, MfO1258, MfO1259, MfO1260, MfO1261, MfO1262, MfO1263, MfO1264, MfO1265, MfO1266, MfO1267, MfO1268, MfO1269, MfO1270, MfO1271, MfO1272], 356374⟩⟩
theorem MfT144 : Ent.check Tryz.prog [] 990 MfE144 = true := by kernel_rfl
theorem MfK144 : MfE144.Ok Tryz.prog := Ent.ok_of mixed Tab.ok_nil MfT144
def MfE145 : Ent := ⟨222, (.cons (.ptr 356375 0) (.cons (nu 3) .nil)), ⟨[MfO1252, MfO1253, MfO1254, MfO1255, MfO1256, MfO1257, MfO1258, MfO1259, MfO1260, MfO1261, MfO1262, MfO1263, MfO1264, MfO1265, MfO1266, MfO1267, MfO1268, MfO1269, MfO1270, MfO1271, MfO1272, MfO1273], 356521⟩, (.agg (avs [(nu 35), (nu 0), (nu 0), (nu 0), (.str 3 7632240), (nu 0), (.sl 356816 0 1 8 false), (nu 26)])), ⟨[MfO1252, MfO1253, MfO1254, MfO1255, MfO1256, MfO1257, MfO1258, MfO1259, MfO1260, MfO1261, MfO1262, MfO1263, MfO1264, MfO1265, MfO1266, MfO1267, MfO1268, MfO1269, MfO1270, MfO1271, MfO1272, MfO1274, MfO1275], 356826⟩⟩
theorem MfT145 : Ent.check Tryz.prog [] 990 MfE145 = true := by kernel_rfl
theorem MfK145 : MfE145.Ok Tryz.prog := Ent.ok_of mixed Tab.ok_nil MfT145
def MfE146 : Ent := ⟨87, (.cons (.ptr 356375 0) (.cons (nu 2) .nil)), ⟨[MfO1252, MfO1253, MfO1254, MfO1255, MfO1256, MfO1257, MfO1258, MfO1259, MfO1260, MfO1261, MfO1262, MfO1263, MfO1264, MfO1265, MfO1266, MfO1267, MfO1268, MfO1269, MfO1270, MfO1271, MfO1272, MfO1273], 356479⟩, (.agg (avs [(nu 1), (.sl 357063 0 1 8 true), .nils, (nu 0), (nu 0), (nu 0), (.str 0 0), (nu 0), (nu 26)])), ⟨[MfO1252, MfO1253, MfO1254, MfO1255, MfO1256, MfO1257, MfO1258, MfO1259, MfO1260, MfO1261, MfO1262, MfO1263, MfO1264, MfO1265, MfO1266, MfO1267, MfO1268, MfO1269, MfO1270, MfO1271, MfO1272, MfO1276, MfO1275, MfO1277], 357067⟩⟩
theorem MfT146 : Ent.check Tryz.prog [(222, [MfE145])] 990 MfE146 = true := by kernel_rfl
theorem MfK146 : MfE146.Ok Tryz.prog := Ent.ok_of mixed (Tab.ok_cons (f := 222) (Ent.ok_cons MfK145 Ent.ok_nil) Tab.ok_nil) MfT146
def MfE147 : Ent := ⟨23, (.cons (.ptr 356375 0) .nil), ⟨[MfO1252, MfO1253, MfO1254, MfO1255, MfO1256, MfO1257, MfO1258, MfO1259, MfO1260, MfO1261, MfO1262, MfO1263, MfO1264, MfO1265, MfO1266, MfO1267, MfO1268, MfO1269, MfO1270, MfO1271, MfO1272, MfO1278], 356376⟩, (.tup (avs [])), ⟨[MfO1252, MfO1253, MfO1254, MfO1255, MfO1256, MfO1257, MfO1258, MfO1259, MfO1260, MfO1261, MfO1262, MfO1263, MfO1264, MfO1265, MfO1266, MfO1267, MfO1268, MfO1269, MfO1270, MfO1271, MfO1272, MfO1279, MfO1280, MfO1281, MfO1282, MfO1283, MfO1275, MfO1277, MfO1284, MfO1285], 357087⟩⟩
theorem MfT147 : Ent.check Tryz.prog [(87, [MfE146])] 990 MfE147 = true := by kernel_rfl
theorem MfK147 : MfE147.Ok Tryz.prog := Ent.ok_of mixed (Tab.ok_cons (f := 87) (Ent.ok_cons MfK146 Ent.ok_nil) Tab.ok_nil) MfT147
def MfE148 : Ent := ⟨31, (.cons (.agg (avs [.nils, (.sl 357144 0 1 8 false)])) .nil), ⟨[MfO1286, MfO1287, MfO1288, MfO1289, MfO1290, MfO1291, MfO1292, MfO1293, MfO1294, MfO1295], 357298⟩, (.bool true), ⟨[MfO1286, MfO1287, MfO1288, MfO1289, MfO1290, MfO1291, MfO1292, MfO1293, MfO1294, MfO1295], 357579⟩⟩
theorem MfT148 : Ent.check Tryz.prog [] 990 MfE148 = true := by kernel_rfl
theorem MfK148 : MfE148.Ok Tryz.prog := Ent.ok_of mixed Tab.ok_nil MfT148
def MfE149 : Ent := ⟨13, (.cons (.str 34 3712197220540627572645522753659692954191434029880853893120516924228439587624873577) (.cons .nils .nil)), ⟨[], 338298⟩, (.agg (avs [(nu 1), (nu 0), (.sl 357735 0 1 1 false), (nu 6), (nu 1)])), ⟨[MfO1296], 357797⟩⟩
theorem MfT149 : Ent.check Tryz.prog [(22, [MfE144]), (23, [MfE147]), (31, [MfE148])] 990 MfE149 = true := by kernel_rfl
theorem MfK149 : MfE149.Ok Tryz.prog := Ent.ok_of mixed (Tab.ok_cons (f := 22) (Ent.ok_cons MfK144 Ent.ok_nil) (Tab.ok_cons (f := 23) (Ent.ok_cons MfK147 Ent.ok_nil) (Tab.ok_cons (f := 31) (Ent.ok_cons MfK148 Ent.ok_nil) Tab.ok_nil))) MfT149
end Go.Proofs.YtpepepkfjimoeaaGreat

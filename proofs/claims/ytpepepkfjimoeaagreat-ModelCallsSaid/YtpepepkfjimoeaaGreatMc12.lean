/- Calls that were proved one by one: what the evaluator says. -/
import Derived.Test.YtpepepkfjimoeaaGreatMcO
import Derived.Test.YtpepepkfjimoeaaGreatMcOx1
import Derived.Test.YtpepepkfjimoeaaGreatMcOx2
import Derived.Test.YtpepepkfjimoeaaGreatProg
import Derived.ProofKit
import Derived.Test.YtpepepkfjimoeaaGreatVh
import Derived.Test.YtpepepkfjimoeaaGreatMc11
namespace Go.Proofs.YtpepepkfjimoeaaGreat
open Go.Proofs.YtpepepkfjimoeaaGreat.Ev
set_option maxRecDepth 100000

def McE133 : Ent := ⟨16, (.cons (.str 68 28170195555524786574190712507442324180193554858738994288838838634892035581238098929678819233843419150606598333351531150863148762395268159938772553858166125838823286) .nil), ⟨[], 201121⟩, (.tup (avs [(.agg (avs [.nils, (.sl 228568 0 2 8 false)])), (.agg (avs [(nu 0), (nu 0)]))])), ⟨[McO1425, McO1426, McO1417, McO1419, McO1427, McO1421, McO1423, McO1428, McO1436, McO1431, McO1432, McO1433, McO1435, McO1437, McO1438], 228569⟩⟩
theorem McT133 : Ent.check Tryz.prog [(22, [McE126]), (87, [McE128, McE130, McE132])] 990 McE133 = true := by kernel_rfl
theorem McK133 : McE133.Ok Tryz.prog := Ent.ok_of mixed (Tab.ok_cons (f := 22) (Ent.ok_cons McK126 Ent.ok_nil) (Tab.ok_cons (f := 87) (Ent.ok_cons McK128 (Ent.ok_cons McK130 (Ent.ok_cons McK132 Ent.ok_nil))) Tab.ok_nil)) McT133
def McE134 : Ent := ⟨30, (.cons (.agg (avs [.nils, (.sl 228568 0 2 8 false)])) .nil), ⟨[McO1425, McO1426, McO1417, McO1419, McO1427, McO1421, McO1423, McO1428, McO1436, McO1431, McO1432, McO1433, McO1435, McO1437, McO1438], 228571⟩, (.tup (avs [(.agg (avs [.nils, (.sl 228651 0 2 8 false)])), (.agg (avs [(nu 0), (nu 0)]))])), ⟨[McO1425, McO1426, McO1417, McO1419, McO1427, McO1421, McO1423, McO1428, McO1436, McO1431, McO1432, McO1433, McO1435, McO1437, McO1438, McO1439, McO1440, McO1441, McO1442, McO1443, McO1444, McO1445, McO1446, McO1447, McO1448, McO1449, McO1450, McO1451, McO1452, McO1453], 229133⟩⟩
theorem McT134 : Ent.check Tryz.prog [] 990 McE134 = true := by kernel_rfl
theorem McK134 : McE134.Ok Tryz.prog := Ent.ok_of mixed Tab.ok_nil McT134
def McE135 : Ent := ⟨17, (.cons (.agg (avs [.nils, (.sl 228651 0 2 8 false)])) .nil), ⟨[McO1439, McO1440, McO1441, McO1442, McO1443, McO1444, McO1445, McO1446, McO1447, McO1448, McO1449, McO1450, McO1451, McO1452, McO1453], 229144⟩, (.tup (avs [(.agg (avs [.nils, (.sl 229159 0 2 8 false)])), (.agg (avs [(nu 0), (nu 0)]))])), ⟨[McO1439, McO1440, McO1441, McO1442, McO1443, McO1444, McO1445, McO1446, McO1447, McO1448, McO1449, McO1450, McO1451, McO1452, McO1453, McO1454, McO1455, McO1456, McO1457, McO1458, McO1459, McO1460, McO1461, McO1462, McO1463, McO1464, McO1465, McO1466], 229678⟩⟩
theorem McT135 : Ent.check Tryz.prog [] 990 McE135 = true := by kernel_rfl
theorem McK135 : McE135.Ok Tryz.prog := Ent.ok_of mixed Tab.ok_nil McT135
def McE136 : Ent := ⟨20, (.cons (.agg (avs [.nils, (.sl 228651 0 2 8 false)])) (.cons .nils (.cons (nu 2000) .nil))), ⟨[McO1439, McO1440, McO1441, McO1442, McO1443, McO1444, McO1445, McO1446, McO1447, McO1448, McO1449, McO1450, McO1451, McO1452, McO1453], 229141⟩, (.tup (avs [(.agg (avs [(nu 1), (nu 0), (.sl 230283 0 2 1 false), (nu 13), (nu 2)])), (nu 0)])), ⟨[McO1439, McO1440, McO1441, McO1442, McO1443, McO1444, McO1445, McO1446, McO1447, McO1448, McO1449, McO1450, McO1451, McO1452, McO1453, McO1467, McO1468], 230391⟩⟩
theorem McT136 : Ent.check Tryz.prog [(17, [McE135])] 990 McE136 = true := by kernel_rfl
theorem McK136 : McE136.Ok Tryz.prog := Ent.ok_of mixed (Tab.ok_cons (f := 17) (Ent.ok_cons McK135 Ent.ok_nil) Tab.ok_nil) McT136
def McE137 : Ent := ⟨22, (.cons (.str 28 13188389808205803994902396959577893194823295650215681297585771146857) .nil), ⟨[], 230473⟩, (.tup (avs [(.sl 240798 0 15 4 false), (.agg (avs [(nu 0), (nu 0)]))])), ⟨[McO1469, McO1470, McO1471, McO1472, McO1473, McO1474, McO1475, McO1476, McO1477, McO1478, McO1479, McO1480, McO1481, McO1482, McO1483], 240799⟩⟩
theorem McT137 : Ent.check Tryz.prog [] 990 McE137 = true := by kernel_rfl
theorem McK137 : McE137.Ok Tryz.prog := Ent.ok_of mixed Tab.ok_nil McT137
def McE138 : Ent := ⟨222, (.cons (.ptr 240800 0) (.cons (nu 3) .nil)), ⟨[McO1469, McO1470, McO1471, McO1472, McO1473, McO1474, McO1475, McO1476, McO1477, McO1478, McO1479, McO1480, McO1481, McO1482, McO1483, McO1484], 240876⟩, (.agg (avs [(nu 35), (nu 0), (nu 0), (nu 0), (.str 3 7632240), (nu 0), (.sl 241171 0 1 8 false), (nu 11)])), ⟨[McO1469, McO1470, McO1471, McO1472, McO1473, McO1474, McO1475, McO1476, McO1477, McO1478, McO1479, McO1480, McO1481, McO1482, McO1483, McO1485, McO1486], 241181⟩⟩
theorem McT138 : Ent.check Tryz.prog [] 990 McE138 = true := by kernel_rfl
theorem McK138 : McE138.Ok Tryz.prog := Ent.ok_of mixed Tab.ok_nil McT138
def McE139 : Ent := ⟨87, (.cons (.ptr 240800 0) (.cons (nu 2) .nil)), ⟨[McO1469, McO1470, McO1471, McO1472, McO1473, McO1474, McO1475, McO1476, McO1477, McO1478, McO1479, McO1480, McO1481, McO1482, McO1483, McO1484], 240834⟩, (.agg (avs [(nu 1), (.sl 241418 0 1 8 true), .nils, (nu 0), (nu 0), (nu 0), (.str 0 0), (nu 0), (nu 11)])), ⟨[McO1469, McO1470, McO1471, McO1472, McO1473, McO1474, McO1475, McO1476, McO1477, McO1478, McO1479, McO1480, McO1481, McO1482, McO1483, McO1487, McO1486, McO1488], 241422⟩⟩
theorem McT139 : Ent.check Tryz.prog [(222, [McE138])] 990 McE139 = true := by kernel_rfl
theorem McK139 : McE139.Ok Tryz.prog := Ent.ok_of mixed (Tab.ok_cons (f := 222) (Ent.ok_cons McK138 Ent.ok_nil) Tab.ok_nil) McT139
def McE140 : Ent := ⟨87, (.cons (.ptr 240800 0) (.cons (nu 2) .nil)), ⟨[McO1469, McO1470, McO1471, McO1472, McO1473, McO1474, McO1475, McO1476, McO1477, McO1478, McO1479, McO1480, McO1481, McO1482, McO1483, McO1487], 241425⟩, (.agg (avs [(nu 13), (.sl 241718 0 1 8 true), .nils, (nu 0), (nu 0), (nu 0), (.str 0 0), (nu 0), (nu 18)])), ⟨[McO1469, McO1470, McO1471, McO1472, McO1473, McO1474, McO1475, McO1476, McO1477, McO1478, McO1479, McO1480, McO1481, McO1482, McO1483, McO1489, McO1490], 241722⟩⟩
theorem McT140 : Ent.check Tryz.prog [] 990 McE140 = true := by kernel_rfl
theorem McK140 : McE140.Ok Tryz.prog := Ent.ok_of mixed Tab.ok_nil McT140
def McE141 : Ent := ⟨20, (.cons (.agg (avs [.nils, (.sl 241779 0 1 8 false)])) (.cons .nils (.cons (nu 2000) .nil))), ⟨[McO1491, McO1492, McO1493, McO1494, McO1495, McO1496], 241950⟩, (.tup (avs [(.agg (avs [(nu 1), (nu 3), (.sl 242297 0 1 1 false), (nu 5), (nu 1)])), (nu 0)])), ⟨[McO1491, McO1492, McO1493, McO1494, McO1495, McO1496, McO1497], 242433⟩⟩
theorem McT141 : Ent.check Tryz.prog [] 990 McE141 = true := by kernel_rfl
theorem McK141 : McE141.Ok Tryz.prog := Ent.ok_of mixed Tab.ok_nil McT141
def McE142 : Ent := ⟨13, (.cons (.str 28 13188389808205803994902396959577893194823295650215681297585771146857) (.cons .nils .nil)), ⟨[], 230469⟩, (.agg (avs [(nu 1), (nu 3), (.sl 242297 0 1 1 false), (nu 5), (nu 1)])), ⟨[McO1497], 242434⟩⟩
theorem McT142 : Ent.check Tryz.prog [(22, [McE137]), (87, [McE139, McE140]), (20, [McE141])] 990 McE142 = true := by kernel_rfl
theorem McK142 : McE142.Ok Tryz.prog := Ent.ok_of mixed (Tab.ok_cons (f := 22) (Ent.ok_cons McK137 Ent.ok_nil) (Tab.ok_cons (f := 87) (Ent.ok_cons McK139 (Ent.ok_cons McK140 Ent.ok_nil)) (Tab.ok_cons (f := 20) (Ent.ok_cons McK141 Ent.ok_nil) Tab.ok_nil))) McT142
end Go.Proofs.YtpepepkfjimoeaaGreat

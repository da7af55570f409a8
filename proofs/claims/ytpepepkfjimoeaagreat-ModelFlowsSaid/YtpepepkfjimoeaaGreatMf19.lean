/- Calls that were proved one by one: what the evaluator says. -/
import Derived.Test.YtpepepkfjimoeaaGreatMfO
import Derived.Test.YtpepepkfjimoeaaGreatMfOx1
import Derived.Test.YtpepepkfjimoeaaGreatProg
import Derived.ProofKit
import Derived.Test.YtpepepkfjimoeaaGreatVh
import Derived.Test.YtpepepkfjimoeaaGreatMf18
namespace Go.Proofs.YtpepepkfjimoeaaGreat
open Go.Proofs.YtpepepkfjimoeaaGreat.Ev
set_option maxRecDepth 100000

def MfE156 : Ent := ⟨87, (.cons (.ptr 381664 0) (.cons (nu 2) .nil)), ⟨[MfO1297, MfO1298, MfO1299, MfO1300, MfO1301, MfO1302, MfO1303, MfO1304, MfO1305, MfO1306, MfO1307, MfO1308, MfO1309, MfO1310, MfO1311, MfO1312, MfO1313, MfO1314, MfO1315, MfO1316, MfO1317, MfO1318, MfO1319, MfO1320, MfO1321, MfO1322, MfO1323, MfO1324, MfO1325, MfO1326, MfO1327, MfO1328, MfO1329, MfO1330, MfO1331, MfO1332, MfO1333, MfO1347], 381732⟩, (.agg (avs [(nu 7), (.sl 383046 0 3 8 true), (.sl 384272 0 1 9 true), (nu 0), (nu 0), (nu 0), (.str 0 0), (nu 0), (nu 17)])), ⟨[MfO1297, MfO1298, MfO1299, MfO1300, MfO1301, MfO1302, MfO1303, MfO1304, MfO1305, MfO1306, MfO1307, MfO1308, MfO1309, MfO1310, MfO1311, MfO1312, MfO1313, MfO1314, MfO1315, MfO1316, MfO1317, MfO1318, MfO1319, MfO1320, MfO1321, MfO1322, MfO1323, MfO1324, MfO1325, MfO1326, MfO1327, MfO1328, MfO1329, MfO1330, MfO1331, MfO1332, MfO1333, MfO1348, MfO1336, MfO1339, MfO1349, MfO1350, MfO1351, MfO1342, MfO1344, MfO1352, MfO1346, MfO1353, MfO1354, MfO1355], 384273⟩⟩
theorem MfT156 : Ent.check Tryz.prog [(114, [MfE151, MfE155]), (171, [MfE152]), (87, [MfE154])] 990 MfE156 = true := by kernel_rfl
theorem MfK156 : MfE156.Ok Tryz.prog := Ent.ok_of mixed (Tab.ok_cons (f := 114) (Ent.ok_cons MfK151 (Ent.ok_cons MfK155 Ent.ok_nil)) (Tab.ok_cons (f := 171) (Ent.ok_cons MfK152 Ent.ok_nil) (Tab.ok_cons (f := 87) (Ent.ok_cons MfK154 Ent.ok_nil) Tab.ok_nil))) MfT156
def MfE157 : Ent := ⟨150, (.cons (.ptr 384401 0) (.cons (.ptr 384398 9) .nil)), ⟨[MfO1356, MfO1357, MfO1358, MfO1359, MfO1360, MfO1361, MfO1362, MfO1363, MfO1364, MfO1365, MfO1366, MfO1367, MfO1368, MfO1369, MfO1370, MfO1371, MfO1372, MfO1373, MfO1374, MfO1375, MfO1376, MfO1377, MfO1378], 384523⟩, (.tup (avs [])), ⟨[MfO1379, MfO1380, MfO1381, MfO1382, MfO1383, MfO1384, MfO1385, MfO1386, MfO1387, MfO1372, MfO1373, MfO1388, MfO1389, MfO1376, MfO1377, MfO1390, MfO1391, MfO1392, MfO1393], 385092⟩⟩
theorem MfT157 : Ent.check Tryz.prog [] 990 MfE157 = true := by kernel_rfl
theorem MfK157 : MfE157.Ok Tryz.prog := Ent.ok_of mixed Tab.ok_nil MfT157
def MfE158 : Ent := ⟨19, (.cons (.str 53 21236575907328278228130495417970419901621030765683981204085122890676717931245259730010880173994261076189624457783697170647772777) .nil), ⟨[], 357826⟩, (.tup (avs [(.agg (avs [.nils, (.sl 384400 0 1 8 false)])), (.bool true)])), ⟨[MfO1379, MfO1380, MfO1381, MfO1382, MfO1383, MfO1384, MfO1385, MfO1386, MfO1387, MfO1372, MfO1373, MfO1388, MfO1390, MfO1393], 385111⟩⟩
theorem MfT158 : Ent.check Tryz.prog [(22, [MfE150]), (87, [MfE156]), (150, [MfE157])] 990 MfE158 = true := by kernel_rfl
theorem MfK158 : MfE158.Ok Tryz.prog := Ent.ok_of mixed (Tab.ok_cons (f := 22) (Ent.ok_cons MfK150 Ent.ok_nil) (Tab.ok_cons (f := 87) (Ent.ok_cons MfK156 Ent.ok_nil) (Tab.ok_cons (f := 150) (Ent.ok_cons MfK157 Ent.ok_nil) Tab.ok_nil))) MfT158
def MfE159 : Ent := ⟨121, (.cons (.ptr 385314 0) (.cons (.ptr 385161 9) .nil)), ⟨[MfO1394, MfO1395, MfO1396, MfO1397, MfO1398, MfO1399, MfO1400, MfO1401, MfO1402, MfO1403, MfO1404, MfO1405, MfO1406, MfO1407, MfO1408, MfO1409, MfO1410], 385440⟩, (.tup (avs [])), ⟨[MfO1411, MfO1395, MfO1396, MfO1397, MfO1398, MfO1399, MfO1400, MfO1401, MfO1402, MfO1403, MfO1404, MfO1405, MfO1412, MfO1407, MfO1408, MfO1409, MfO1413, MfO1414, MfO1415, MfO1416], 385877⟩⟩
theorem MfT159 : Ent.check Tryz.prog [] 990 MfE159 = true := by kernel_rfl
theorem MfK159 : MfE159.Ok Tryz.prog := Ent.ok_of mixed Tab.ok_nil MfT159
def MfE160 : Ent := ⟨31, (.cons (.agg (avs [.nils, (.sl 384400 0 1 8 false)])) .nil), ⟨[MfO1379, MfO1380, MfO1381, MfO1382, MfO1383, MfO1384, MfO1385, MfO1386, MfO1387, MfO1372, MfO1373, MfO1388, MfO1390, MfO1393], 385114⟩, (.bool true), ⟨[MfO1379, MfO1380, MfO1381, MfO1382, MfO1383, MfO1384, MfO1385, MfO1386, MfO1387, MfO1372, MfO1373, MfO1388, MfO1390, MfO1393], 385981⟩⟩
theorem MfT160 : Ent.check Tryz.prog [(121, [MfE159])] 990 MfE160 = true := by kernel_rfl
theorem MfK160 : MfE160.Ok Tryz.prog := Ent.ok_of mixed (Tab.ok_cons (f := 121) (Ent.ok_cons MfK159 Ent.ok_nil) Tab.ok_nil) MfT160
def MfE161 : Ent := ⟨134, (.cons (.ptr 385981 0) (.cons (.agg (avs [(nu 7), (.sl 384351 0 3 8 false), (.sl 384396 0 1 9 false), (nu 0), (nu 0), (nu 0), (.str 0 0), (nu 0), (nu 17)])) .nil)), ⟨[MfO1379, MfO1380, MfO1381, MfO1382, MfO1383, MfO1384, MfO1385, MfO1386, MfO1387, MfO1372, MfO1373, MfO1388, MfO1390, MfO1393, MfO1417, MfO1418, MfO1419, MfO1420, MfO1421, MfO1422, MfO1423, MfO1424, MfO1425], 386130⟩, (nu 0), ⟨[MfO1379, MfO1380, MfO1381, MfO1382, MfO1383, MfO1384, MfO1385, MfO1386, MfO1387, MfO1372, MfO1373, MfO1388, MfO1390, MfO1393, MfO1426, MfO1418, MfO1427, MfO1420, MfO1421, MfO1428, MfO1423, MfO1424, MfO1425, MfO1429, MfO1430], 387786⟩⟩
theorem MfT161 : Ent.check Tryz.prog [] 990 MfE161 = true := by kernel_rfl
theorem MfK161 : MfE161.Ok Tryz.prog := Ent.ok_of mixed Tab.ok_nil MfT161
def MfE162 : Ent := ⟨22, (.cons (.str 28 13188389808205803994902396959577893194823295650215681297585771146857) .nil), ⟨[], 387887⟩, (.tup (avs [(.sl 398212 0 15 4 false), (.agg (avs [(nu 0), (nu 0)]))])), ⟨[MfO1431, MfO1432, MfO1433, MfO1434, MfO1435, MfO1436, MfO1437, MfO1438, MfO1439, MfO1440, MfO1441, MfO1442, MfO1443, MfO1444, MfO1445], 398213⟩⟩
theorem MfT162 : Ent.check Tryz.prog [] 990 MfE162 = true := by kernel_rfl
theorem MfK162 : MfE162.Ok Tryz.prog := Ent.ok_of mixed Tab.ok_nil MfT162
def MfE163 : Ent := ⟨222, (.cons (.ptr 398214 0) (.cons (nu 3) .nil)), ⟨[MfO1431, MfO1432, MfO1433, MfO1434, MfO1435, MfO1436, MfO1437, MfO1438, MfO1439, MfO1440, MfO1441, MfO1442, MfO1443, MfO1444, MfO1445, MfO1446], 398290⟩, (.agg (avs [(nu 35), (nu 0), (nu 0), (nu 0), (.str 3 7632240), (nu 0), (.sl 398585 0 1 8 false), (nu 11)])), ⟨[MfO1431, MfO1432, MfO1433, MfO1434, MfO1435, MfO1436, MfO1437, MfO1438, MfO1439, MfO1440, MfO1441, MfO1442, MfO1443, MfO1444, MfO1445, MfO1447, MfO1448], 398595⟩⟩
theorem MfT163 : Ent.check Tryz.prog [] 990 MfE163 = true := by kernel_rfl
theorem MfK163 : MfE163.Ok Tryz.prog := Ent.ok_of mixed Tab.ok_nil MfT163
def MfE164 : Ent := ⟨87, (.cons (.ptr 398214 0) (.cons (nu 2) .nil)), ⟨[MfO1431, MfO1432, MfO1433, MfO1434, MfO1435, MfO1436, MfO1437, MfO1438, MfO1439, MfO1440, MfO1441, MfO1442, MfO1443, MfO1444, MfO1445, MfO1446], 398248⟩, (.agg (avs [(nu 1), (.sl 398832 0 1 8 true), .nils, (nu 0), (nu 0), (nu 0), (.str 0 0), (nu 0), (nu 11)])), ⟨[MfO1431, MfO1432, MfO1433, MfO1434, MfO1435, MfO1436, MfO1437, MfO1438, MfO1439, MfO1440, MfO1441, MfO1442, MfO1443, MfO1444, MfO1445, MfO1449, MfO1448, MfO1450], 398836⟩⟩
theorem MfT164 : Ent.check Tryz.prog [(222, [MfE163])] 990 MfE164 = true := by kernel_rfl
theorem MfK164 : MfE164.Ok Tryz.prog := Ent.ok_of mixed (Tab.ok_cons (f := 222) (Ent.ok_cons MfK163 Ent.ok_nil) Tab.ok_nil) MfT164
def MfE165 : Ent := ⟨87, (.cons (.ptr 398214 0) (.cons (nu 2) .nil)), ⟨[MfO1431, MfO1432, MfO1433, MfO1434, MfO1435, MfO1436, MfO1437, MfO1438, MfO1439, MfO1440, MfO1441, MfO1442, MfO1443, MfO1444, MfO1445, MfO1449], 398839⟩, (.agg (avs [(nu 13), (.sl 399132 0 1 8 true), .nils, (nu 0), (nu 0), (nu 0), (.str 0 0), (nu 0), (nu 18)])), ⟨[MfO1431, MfO1432, MfO1433, MfO1434, MfO1435, MfO1436, MfO1437, MfO1438, MfO1439, MfO1440, MfO1441, MfO1442, MfO1443, MfO1444, MfO1445, MfO1451, MfO1452], 399136⟩⟩
theorem MfT165 : Ent.check Tryz.prog [] 990 MfE165 = true := by kernel_rfl
theorem MfK165 : MfE165.Ok Tryz.prog := Ent.ok_of mixed Tab.ok_nil MfT165
def MfE166 : Ent := ⟨20, (.cons (.agg (avs [.nils, (.sl 399193 0 1 8 false)])) (.cons .nils (.cons (nu 2000) .nil))), ⟨[MfO1453, MfO1454, MfO1455, MfO1456, MfO1457, MfO1458], 399364⟩, (.tup (avs [(.agg (avs [(nu 1), (nu 3), (.sl 399711 0 1 1 false), (nu 5), (nu 1)])), (nu 0)])), ⟨[MfO1453, MfO1454, MfO1455, MfO1456, MfO1457, MfO1458, MfO1459], 399847⟩⟩
theorem MfT166 : Ent.check Tryz.prog [] 990 MfE166 = true := by kernel_rfl
theorem MfK166 : MfE166.Ok Tryz.prog := Ent.ok_of mixed Tab.ok_nil MfT166
def MfE167 : Ent := ⟨13, (.cons (.str 28 13188389808205803994902396959577893194823295650215681297585771146857) (.cons .nils .nil)), ⟨[], 387883⟩, (.agg (avs [(nu 1), (nu 3), (.sl 399711 0 1 1 false), (nu 5), (nu 1)])), ⟨[MfO1459], 399848⟩⟩
theorem MfT167 : Ent.check Tryz.prog [(22, [MfE162]), (87, [MfE164, MfE165]), (20, [MfE166])] 990 MfE167 = true := by kernel_rfl
theorem MfK167 : MfE167.Ok Tryz.prog := Ent.ok_of mixed (Tab.ok_cons (f := 22) (Ent.ok_cons MfK162 Ent.ok_nil) (Tab.ok_cons (f := 87) (Ent.ok_cons MfK164 (Ent.ok_cons MfK165 Ent.ok_nil)) (Tab.ok_cons (f := 20) (Ent.ok_cons MfK166 Ent.ok_nil) Tab.ok_nil))) MfT167
end Go.Proofs.YtpepepkfjimoeaaGreat

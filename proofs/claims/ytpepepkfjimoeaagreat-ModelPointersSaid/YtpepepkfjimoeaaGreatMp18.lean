/- Calls that were proved one by one: what the evaluator says. -/
import Derived.Test.YtpepepkfjimoeaaGreatMpO
import Derived.Test.YtpepepkfjimoeaaGreatMpOx1
import Derived.Test.YtpepepkfjimoeaaGreatProg
import Derived.ProofKit
import Derived.Test.YtpepepkfjimoeaaGreatVh
namespace Go.Proofs.YtpepepkfjimoeaaGreat
open Go.Proofs.YtpepepkfjimoeaaGreat.Ev
set_option maxRecDepth 100000

def MpE136 : Ent := ⟨22, (.cons (.str 28 13188389808205803994902396959577893194823295650215681297585771146857) .nil), ⟨[], 351236⟩, (.tup (avs [(.sl 361561 0 15 4 false), (.agg (avs [(nu 0), (nu 0)]))])), ⟨[MpO1280, MpO1281, MpO1282, MpO1283, MpO1284, MpO1285, MpO1286, MpO1287, MpO1288, MpO1289, MpO1290, MpO1291, MpO1292, MpO1293, MpO1294], 361562⟩⟩
theorem MpT136 : Ent.check Tryz.prog [] 990 MpE136 = true := by kernel_rfl
theorem MpK136 : MpE136.Ok Tryz.prog := Ent.ok_of mixed Tab.ok_nil MpT136
def MpE137 : Ent := ⟨222, (.cons (.ptr 361563 0) (.cons (nu 3) .nil)), ⟨[MpO1280, MpO1281, MpO1282, MpO1283, MpO1284, MpO1285, MpO1286, MpO1287, MpO1288, MpO1289, MpO1290, MpO1291, MpO1292, MpO1293, MpO1294, MpO1295], 361639⟩, (.agg (avs [(nu 35), (nu 0), (nu 0), (nu 0), (.str 3 7632240), (nu 0), (.sl 361934 0 1 8 false), (nu 11)])), ⟨[MpO1280, MpO1281, MpO1282, MpO1283, MpO1284, MpO1285, MpO1286, MpO1287, MpO1288, MpO1289, MpO1290, MpO1291, MpO1292, MpO1293, MpO1294, MpO1296, MpO1297], 361944⟩⟩
theorem MpT137 : Ent.check Tryz.prog [] 990 MpE137 = true := by kernel_rfl
theorem MpK137 : MpE137.Ok Tryz.prog := Ent.ok_of mixed Tab.ok_nil MpT137
def MpE138 : Ent := ⟨87, (.cons (.ptr 361563 0) (.cons (nu 2) .nil)), ⟨[MpO1280, MpO1281, MpO1282, MpO1283, MpO1284, MpO1285, MpO1286, MpO1287, MpO1288, MpO1289, MpO1290, MpO1291, MpO1292, MpO1293, MpO1294, MpO1295], 361597⟩, (.agg (avs [(nu 1), (.sl 362181 0 1 8 true), .nils, (nu 0), (nu 0), (nu 0), (.str 0 0), (nu 0), (nu 11)])), ⟨[MpO1280, MpO1281, MpO1282, MpO1283, MpO1284, MpO1285, MpO1286, MpO1287, MpO1288, MpO1289, MpO1290, MpO1291, MpO1292, MpO1293, MpO1294, MpO1298, MpO1297, MpO1299], 362185⟩⟩
theorem MpT138 : Ent.check Tryz.prog [(222, [MpE137])] 990 MpE138 = true := by kernel_rfl
theorem MpK138 : MpE138.Ok Tryz.prog := Ent.ok_of mixed (Tab.ok_cons (f := 222) (Ent.ok_cons MpK137 Ent.ok_nil) Tab.ok_nil) MpT138
def MpE139 : Ent := ⟨87, (.cons (.ptr 361563 0) (.cons (nu 2) .nil)), ⟨[MpO1280, MpO1281, MpO1282, MpO1283, MpO1284, MpO1285, MpO1286, MpO1287, MpO1288, MpO1289, MpO1290, MpO1291, MpO1292, MpO1293, MpO1294, MpO1298], 362188⟩, (.agg (avs [(nu 13), (.sl 362481 0 1 8 true), .nils, (nu 0), (nu 0), (nu 0), (.str 0 0), (nu 0), (nu 18)])), ⟨[MpO1280, MpO1281, MpO1282, MpO1283, MpO1284, MpO1285, MpO1286, MpO1287, MpO1288, MpO1289, MpO1290, MpO1291, MpO1292, MpO1293, MpO1294, MpO1300, MpO1301], 362485⟩⟩
theorem MpT139 : Ent.check Tryz.prog [] 990 MpE139 = true := by kernel_rfl
theorem MpK139 : MpE139.Ok Tryz.prog := Ent.ok_of mixed Tab.ok_nil MpT139
def MpE140 : Ent := ⟨20, (.cons (.agg (avs [.nils, (.sl 362542 0 1 8 false)])) (.cons .nils (.cons (nu 2000) .nil))), ⟨[MpO1302, MpO1303, MpO1304, MpO1305, MpO1306, MpO1307], 362713⟩, (.tup (avs [(.agg (avs [(nu 1), (nu 3), (.sl 363060 0 1 1 false), (nu 5), (nu 1)])), (nu 0)])), ⟨[MpO1302, MpO1303, MpO1304, MpO1305, MpO1306, MpO1307, MpO1308], 363196⟩⟩
theorem MpT140 : Ent.check Tryz.prog [] 990 MpE140 = true := by kernel_rfl
theorem MpK140 : MpE140.Ok Tryz.prog := Ent.ok_of mixed Tab.ok_nil MpT140
def MpE141 : Ent := ⟨13, (.cons (.str 28 13188389808205803994902396959577893194823295650215681297585771146857) (.cons .nils .nil)), ⟨[], 351232⟩, (.agg (avs [(nu 1), (nu 3), (.sl 363060 0 1 1 false), (nu 5), (nu 1)])), ⟨[MpO1308], 363197⟩⟩
theorem MpT141 : Ent.check Tryz.prog [(22, [MpE136]), (87, [MpE138, MpE139]), (20, [MpE140])] 990 MpE141 = true := by kernel_rfl
theorem MpK141 : MpE141.Ok Tryz.prog := Ent.ok_of mixed (Tab.ok_cons (f := 22) (Ent.ok_cons MpK136 Ent.ok_nil) (Tab.ok_cons (f := 87) (Ent.ok_cons MpK138 (Ent.ok_cons MpK139 Ent.ok_nil)) (Tab.ok_cons (f := 20) (Ent.ok_cons MpK140 Ent.ok_nil) Tab.ok_nil))) MpT141
end Go.Proofs.YtpepepkfjimoeaaGreat

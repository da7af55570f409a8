/- Calls that were proved one by one: what the evaluator says. -/
import Derived.Test.YtpepepkfjimoeaaGreatMpO
import Derived.Test.YtpepepkfjimoeaaGreatMpOx1
import Derived.Test.YtpepepkfjimoeaaGreatProg
import Derived.ProofKit
import Derived.Test.YtpepepkfjimoeaaGreatVh
import Derived.Test.YtpepepkfjimoeaaGreatMp16
namespace Go.Proofs.YtpepepkfjimoeaaGreat
open Go.Proofs.YtpepepkfjimoeaaGreat.Ev
set_option maxRecDepth 100000

def MpE128 : Ent := ⟨19, (.cons (.str 25 786088334849289020395588525275803058793124083928108341948009) .nil), ⟨[], 316766⟩, (.tup (avs [(.agg (avs [.nils, (.sl 331699 0 2 8 false)])), (.bool true)])), ⟨[MpO1218, MpO1219, MpO1220], 331808⟩⟩
theorem MpT128 : Ent.check Tryz.prog [(22, [MpE126]), (87, [MpE127])] 990 MpE128 = true := by kernel_rfl
theorem MpK128 : MpE128.Ok Tryz.prog := Ent.ok_of mixed (Tab.ok_cons (f := 22) (Ent.ok_cons MpK126 Ent.ok_nil) (Tab.ok_cons (f := 87) (Ent.ok_cons MpK127 Ent.ok_nil) Tab.ok_nil)) MpT128
def MpE129 : Ent := ⟨22, (.cons (.str 44 4487802212413619295761948317890916431922111656512490824959087264328278075801979766028549045268335071358569) .nil), ⟨[], 332165⟩, (.tup (avs [(.sl 348554 0 26 4 false), (.agg (avs [(nu 0), (nu 0)]))])), ⟨[MpO1221, MpO1222, MpO1223, MpO1224, MpO1225, MpO1226, MpO1227, MpO1228, MpO1229, MpO1230, MpO1231, MpO1232, MpO1233, MpO1234, MpO1235, MpO1236, MpO1237, MpO1238, MpO1239, MpO1240, MpO1241, MpO1242, MpO1243, MpO1244, MpO1245, MpO1246], 348555⟩⟩
theorem MpT129 : Ent.check Tryz.prog [] 990 MpE129 = true := by kernel_rfl
theorem MpK129 : MpE129.Ok Tryz.prog := Ent.ok_of mixed Tab.ok_nil MpT129
def MpE130 : Ent := ⟨222, (.cons (.ptr 348556 0) (.cons (nu 4) .nil)), ⟨[MpO1221, MpO1222, MpO1223, MpO1224, MpO1225, MpO1226, MpO1227, MpO1228, MpO1229, MpO1230, MpO1231, MpO1232, MpO1233, MpO1234, MpO1235, MpO1236, MpO1237, MpO1238, MpO1239, MpO1240, MpO1241, MpO1242, MpO1243, MpO1244, MpO1245, MpO1246, MpO1247], 348722⟩, (.agg (avs [(nu 3), (nu 0), (nu 0), (nu 0), (.str 0 0), (nu 0), (.sl 349013 0 2 8 true), (nu 35)])), ⟨[MpO1221, MpO1222, MpO1223, MpO1224, MpO1225, MpO1226, MpO1227, MpO1228, MpO1229, MpO1230, MpO1231, MpO1232, MpO1233, MpO1234, MpO1235, MpO1236, MpO1237, MpO1238, MpO1239, MpO1240, MpO1241, MpO1242, MpO1243, MpO1244, MpO1245, MpO1246, MpO1248, MpO1249], 349018⟩⟩
theorem MpT130 : Ent.check Tryz.prog [] 990 MpE130 = true := by kernel_rfl
theorem MpK130 : MpE130.Ok Tryz.prog := Ent.ok_of mixed Tab.ok_nil MpT130
def MpE131 : Ent := ⟨171, (.cons (.ptr 348556 0) (.cons (nu 3) (.cons (nu 5) .nil))), ⟨[MpO1221, MpO1222, MpO1223, MpO1224, MpO1225, MpO1226, MpO1227, MpO1228, MpO1229, MpO1230, MpO1231, MpO1232, MpO1233, MpO1234, MpO1235, MpO1236, MpO1237, MpO1238, MpO1239, MpO1240, MpO1241, MpO1242, MpO1243, MpO1244, MpO1245, MpO1246, MpO1250], 348692⟩, (.agg (avs [(nu 26), (nu 0), (nu 0), (nu 0), (.str 0 0), (nu 0), (.sl 349279 0 2 8 true), (nu 38)])), ⟨[MpO1221, MpO1222, MpO1223, MpO1224, MpO1225, MpO1226, MpO1227, MpO1228, MpO1229, MpO1230, MpO1231, MpO1232, MpO1233, MpO1234, MpO1235, MpO1236, MpO1237, MpO1238, MpO1239, MpO1240, MpO1241, MpO1242, MpO1243, MpO1244, MpO1245, MpO1246, MpO1251, MpO1249, MpO1252, MpO1253, MpO1254], 349328⟩⟩
theorem MpT131 : Ent.check Tryz.prog [(222, [MpE130])] 990 MpE131 = true := by kernel_rfl
theorem MpK131 : MpE131.Ok Tryz.prog := Ent.ok_of mixed (Tab.ok_cons (f := 222) (Ent.ok_cons MpK130 Ent.ok_nil) Tab.ok_nil) MpT131
def MpE132 : Ent := ⟨48, (.cons (.ptr 348556 0) (.cons (nu 1) .nil)), ⟨[MpO1221, MpO1222, MpO1223, MpO1224, MpO1225, MpO1226, MpO1227, MpO1228, MpO1229, MpO1230, MpO1231, MpO1232, MpO1233, MpO1234, MpO1235, MpO1236, MpO1237, MpO1238, MpO1239, MpO1240, MpO1241, MpO1242, MpO1243, MpO1244, MpO1245, MpO1246, MpO1255], 348586⟩, (.sl 349455 0 3 9 false), ⟨[MpO1221, MpO1222, MpO1223, MpO1224, MpO1225, MpO1226, MpO1227, MpO1228, MpO1229, MpO1230, MpO1231, MpO1232, MpO1233, MpO1234, MpO1235, MpO1236, MpO1237, MpO1238, MpO1239, MpO1240, MpO1241, MpO1242, MpO1243, MpO1244, MpO1245, MpO1246, MpO1256, MpO1257, MpO1258, MpO1249, MpO1252, MpO1253, MpO1254, MpO1259, MpO1260], 349460⟩⟩
theorem MpT132 : Ent.check Tryz.prog [(171, [MpE131])] 990 MpE132 = true := by kernel_rfl
theorem MpK132 : MpE132.Ok Tryz.prog := Ent.ok_of mixed (Tab.ok_cons (f := 171) (Ent.ok_cons MpK131 Ent.ok_nil) Tab.ok_nil) MpT132
def MpE133 : Ent := ⟨30, (.cons (.agg (avs [.nils, (.sl 349473 0 1 8 false)])) .nil), ⟨[MpO1257, MpO1258, MpO1249, MpO1252, MpO1253, MpO1254, MpO1259, MpO1260, MpO1261], 349476⟩, (.tup (avs [(.agg (avs [.nils, (.sl 349536 0 1 8 false)])), (.agg (avs [(nu 0), (nu 0)]))])), ⟨[MpO1257, MpO1258, MpO1249, MpO1252, MpO1253, MpO1254, MpO1259, MpO1260, MpO1261, MpO1262, MpO1263, MpO1264, MpO1265, MpO1266, MpO1267, MpO1268, MpO1269, MpO1270], 350062⟩⟩
theorem MpT133 : Ent.check Tryz.prog [] 990 MpE133 = true := by kernel_rfl
theorem MpK133 : MpE133.Ok Tryz.prog := Ent.ok_of mixed Tab.ok_nil MpT133
def MpE134 : Ent := ⟨17, (.cons (.agg (avs [.nils, (.sl 349536 0 1 8 false)])) .nil), ⟨[MpO1262, MpO1263, MpO1264, MpO1265, MpO1266, MpO1267, MpO1268, MpO1269, MpO1270], 350073⟩, (.tup (avs [(.agg (avs [.nils, (.sl 350088 0 1 8 false)])), (.agg (avs [(nu 0), (nu 0)]))])), ⟨[MpO1262, MpO1263, MpO1264, MpO1265, MpO1266, MpO1267, MpO1268, MpO1269, MpO1270, MpO1271, MpO1272, MpO1273, MpO1274, MpO1275, MpO1276, MpO1277, MpO1278, MpO1279], 350679⟩⟩
theorem MpT134 : Ent.check Tryz.prog [] 990 MpE134 = true := by kernel_rfl
theorem MpK134 : MpE134.Ok Tryz.prog := Ent.ok_of mixed Tab.ok_nil MpT134
def MpE135 : Ent := ⟨20, (.cons (.agg (avs [.nils, (.sl 349536 0 1 8 false)])) (.cons .nils (.cons (nu 2000) .nil))), ⟨[MpO1262, MpO1263, MpO1264, MpO1265, MpO1266, MpO1267, MpO1268, MpO1269, MpO1270], 350070⟩, (.tup (avs [(.agg (avs [(nu 3), (nu 0), .nils, (nu 0), (nu 0)])), (nu 0)])), ⟨[MpO1262, MpO1263, MpO1264, MpO1265, MpO1266, MpO1267, MpO1268, MpO1269, MpO1270], 351229⟩⟩
theorem MpT135 : Ent.check Tryz.prog [(17, [MpE134])] 990 MpE135 = true := by kernel_rfl
theorem MpK135 : MpE135.Ok Tryz.prog := Ent.ok_of mixed (Tab.ok_cons (f := 17) (Ent.ok_cons MpK134 Ent.ok_nil) Tab.ok_nil) MpT135
end Go.Proofs.YtpepepkfjimoeaaGreat

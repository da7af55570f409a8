/- Calls that were proved one by one: what the evaluator says. -/
import Derived.Test.YtpepepkfjimoeaaGreatDoorDsO
import Derived.Test.YtpepepkfjimoeaaGreatDoorProg
import Derived.ProofKit
import Derived.Test.YtpepepkfjimoeaaGreatDoorVy
namespace Go.Proofs.YtpepepkfjimoeaaGreatDoor
open Go.Proofs.YtpepepkfjimoeaaGreatDoor.Ev
set_option maxRecDepth 100000

def DsE0 : Ent := ⟨27, (.cons (.fn 25 .nil .nil) (.cons (.fn 23 .nil .nil) .nil)), ⟨[], 1⟩, (.str 1290 DsS0), ⟨[], 2⟩⟩
theorem DsT0 : Ent.check Tryz.prog known [] 990 DsE0 = true := by kernel_rfl
theorem DsK0 {W : World} (hW : LibW W) : DsE0.Ok Tryz.prog (KG W) := Ent.ok_of mixed (known_ok hW) Tab.ok_nil DsT0
def DsE1 : Ent := ⟨27, (.cons (.fn 29 .nil .nil) (.cons (.fn 28 .nil .nil) .nil)), ⟨[], 2⟩, (.str 1378 DsS1), ⟨[], 3⟩⟩
theorem DsT1 : Ent.check Tryz.prog known [] 990 DsE1 = true := by kernel_rfl
theorem DsK1 {W : World} (hW : LibW W) : DsE1.Ok Tryz.prog (KG W) := Ent.ok_of mixed (known_ok hW) Tab.ok_nil DsT1
def DsE2 : Ent := ⟨30, (.cons (.str 1320 DsS2) (.cons (.str 1 10) .nil)), ⟨[], 630⟩, (.tup (avs [(.str 29 DsS3), (.str 1290 DsS0), (.bool true)])), ⟨[], 642⟩⟩
theorem DsT2 : Ent.check Tryz.prog known [] 990 DsE2 = true := by kernel_rfl
theorem DsK2 {W : World} (hW : LibW W) : DsE2.Ok Tryz.prog (KG W) := Ent.ok_of mixed (known_ok hW) Tab.ok_nil DsT2
def DsE3 : Ent := ⟨32, (.cons (.ptr 679 0) .nil), ⟨[DsO0], 680⟩, (.tup (avs [(.agg (avs [(nu 12), (nu 0), (.sl 722 0 2 3 false)])), (.bool true)])), ⟨[DsO1, DsO2], 734⟩⟩
theorem DsT3 : Ent.check Tryz.prog known [] 990 DsE3 = true := by kernel_rfl
theorem DsK3 {W : World} (hW : LibW W) : DsE3.Ok Tryz.prog (KG W) := Ent.ok_of mixed (known_ok hW) Tab.ok_nil DsT3
def DsE4 : Ent := ⟨30, (.cons (.str 1290 DsS0) (.cons (.str 1 10) .nil)), ⟨[], 748⟩, (.tup (avs [(.str 28 DsS4), (.str 1261 DsS5), (.bool true)])), ⟨[], 760⟩⟩
theorem DsT4 : Ent.check Tryz.prog known [] 990 DsE4 = true := by kernel_rfl
theorem DsK4 {W : World} (hW : LibW W) : DsE4.Ok Tryz.prog (KG W) := Ent.ok_of mixed (known_ok hW) Tab.ok_nil DsT4
def DsE5 : Ent := ⟨32, (.cons (.ptr 797 0) .nil), ⟨[DsO3], 798⟩, (.tup (avs [(.agg (avs [(nu 5), (nu 0), (.sl 819 0 1 3 false)])), (.bool true)])), ⟨[DsO4, DsO5], 831⟩⟩
theorem DsT5 : Ent.check Tryz.prog known [] 990 DsE5 = true := by kernel_rfl
theorem DsK5 {W : World} (hW : LibW W) : DsE5.Ok Tryz.prog (KG W) := Ent.ok_of mixed (known_ok hW) Tab.ok_nil DsT5
def DsE6 : Ent := ⟨30, (.cons (.str 1261 DsS5) (.cons (.str 1 10) .nil)), ⟨[], 845⟩, (.tup (avs [(.str 30 DsS6), (.str 1230 DsS7), (.bool true)])), ⟨[], 857⟩⟩
theorem DsT6 : Ent.check Tryz.prog known [] 990 DsE6 = true := by kernel_rfl
theorem DsK6 {W : World} (hW : LibW W) : DsE6.Ok Tryz.prog (KG W) := Ent.ok_of mixed (known_ok hW) Tab.ok_nil DsT6
def DsE7 : Ent := ⟨32, (.cons (.ptr 894 0) .nil), ⟨[DsO6], 895⟩, (.tup (avs [(.agg (avs [(nu 6), (nu 0), (.sl 917 0 1 3 false)])), (.bool true)])), ⟨[DsO7, DsO8], 929⟩⟩
theorem DsT7 : Ent.check Tryz.prog known [] 990 DsE7 = true := by kernel_rfl
theorem DsK7 {W : World} (hW : LibW W) : DsE7.Ok Tryz.prog (KG W) := Ent.ok_of mixed (known_ok hW) Tab.ok_nil DsT7
def DsE8 : Ent := ⟨30, (.cons (.str 1230 DsS7) (.cons (.str 1 10) .nil)), ⟨[], 943⟩, (.tup (avs [(.str 30 DsS8), (.str 1199 DsS9), (.bool true)])), ⟨[], 955⟩⟩
theorem DsT8 : Ent.check Tryz.prog known [] 990 DsE8 = true := by kernel_rfl
theorem DsK8 {W : World} (hW : LibW W) : DsE8.Ok Tryz.prog (KG W) := Ent.ok_of mixed (known_ok hW) Tab.ok_nil DsT8
def DsE9 : Ent := ⟨32, (.cons (.ptr 992 0) .nil), ⟨[DsO9], 993⟩, (.tup (avs [(.agg (avs [(nu 7), (nu 0), (.sl 1016 0 1 3 false)])), (.bool true)])), ⟨[DsO10, DsO11], 1028⟩⟩
theorem DsT9 : Ent.check Tryz.prog known [] 990 DsE9 = true := by kernel_rfl
theorem DsK9 {W : World} (hW : LibW W) : DsE9.Ok Tryz.prog (KG W) := Ent.ok_of mixed (known_ok hW) Tab.ok_nil DsT9
def DsE10 : Ent := ⟨30, (.cons (.str 1199 DsS9) (.cons (.str 1 10) .nil)), ⟨[], 1042⟩, (.tup (avs [(.str 30 DsS10), (.str 1168 DsS11), (.bool true)])), ⟨[], 1054⟩⟩
theorem DsT10 : Ent.check Tryz.prog known [] 990 DsE10 = true := by kernel_rfl
theorem DsK10 {W : World} (hW : LibW W) : DsE10.Ok Tryz.prog (KG W) := Ent.ok_of mixed (known_ok hW) Tab.ok_nil DsT10
def DsE11 : Ent := ⟨32, (.cons (.ptr 1091 0) .nil), ⟨[DsO12], 1092⟩, (.tup (avs [(.agg (avs [(nu 8), (nu 0), (.sl 1116 0 1 3 false)])), (.bool true)])), ⟨[DsO13, DsO14], 1128⟩⟩
theorem DsT11 : Ent.check Tryz.prog known [] 990 DsE11 = true := by kernel_rfl
theorem DsK11 {W : World} (hW : LibW W) : DsE11.Ok Tryz.prog (KG W) := Ent.ok_of mixed (known_ok hW) Tab.ok_nil DsT11
def DsE12 : Ent := ⟨30, (.cons (.str 1168 DsS11) (.cons (.str 1 10) .nil)), ⟨[], 1142⟩, (.tup (avs [(.str 30 DsS12), (.str 1137 DsS13), (.bool true)])), ⟨[], 1154⟩⟩
theorem DsT12 : Ent.check Tryz.prog known [] 990 DsE12 = true := by kernel_rfl
theorem DsK12 {W : World} (hW : LibW W) : DsE12.Ok Tryz.prog (KG W) := Ent.ok_of mixed (known_ok hW) Tab.ok_nil DsT12
def DsE13 : Ent := ⟨32, (.cons (.ptr 1191 0) .nil), ⟨[DsO15], 1192⟩, (.tup (avs [(.agg (avs [(nu 9), (nu 0), (.sl 1217 0 1 3 false)])), (.bool true)])), ⟨[DsO16, DsO17], 1229⟩⟩
theorem DsT13 : Ent.check Tryz.prog known [] 990 DsE13 = true := by kernel_rfl
theorem DsK13 {W : World} (hW : LibW W) : DsE13.Ok Tryz.prog (KG W) := Ent.ok_of mixed (known_ok hW) Tab.ok_nil DsT13
def DsE14 : Ent := ⟨30, (.cons (.str 1137 DsS13) (.cons (.str 1 10) .nil)), ⟨[], 1243⟩, (.tup (avs [(.str 32 DsS14), (.str 1104 DsS15), (.bool true)])), ⟨[], 1255⟩⟩
theorem DsT14 : Ent.check Tryz.prog known [] 990 DsE14 = true := by kernel_rfl
theorem DsK14 {W : World} (hW : LibW W) : DsE14.Ok Tryz.prog (KG W) := Ent.ok_of mixed (known_ok hW) Tab.ok_nil DsT14
def DsE15 : Ent := ⟨32, (.cons (.ptr 1292 0) .nil), ⟨[DsO18], 1293⟩, (.tup (avs [(.agg (avs [(nu 10), (nu 0), (.sl 1319 0 1 3 false)])), (.bool true)])), ⟨[DsO19, DsO20], 1331⟩⟩
theorem DsT15 : Ent.check Tryz.prog known [] 990 DsE15 = true := by kernel_rfl
theorem DsK15 {W : World} (hW : LibW W) : DsE15.Ok Tryz.prog (KG W) := Ent.ok_of mixed (known_ok hW) Tab.ok_nil DsT15
def DsE16 : Ent := ⟨30, (.cons (.str 1104 DsS15) (.cons (.str 1 10) .nil)), ⟨[], 1345⟩, (.tup (avs [(.str 32 DsS16), (.str 1071 DsS17), (.bool true)])), ⟨[], 1357⟩⟩
theorem DsT16 : Ent.check Tryz.prog known [] 990 DsE16 = true := by kernel_rfl
theorem DsK16 {W : World} (hW : LibW W) : DsE16.Ok Tryz.prog (KG W) := Ent.ok_of mixed (known_ok hW) Tab.ok_nil DsT16
def DsE17 : Ent := ⟨32, (.cons (.ptr 1394 0) .nil), ⟨[DsO21], 1395⟩, (.tup (avs [(.agg (avs [(nu 11), (nu 0), (.sl 1422 0 1 3 false)])), (.bool true)])), ⟨[DsO22, DsO23], 1434⟩⟩
theorem DsT17 : Ent.check Tryz.prog known [] 990 DsE17 = true := by kernel_rfl
theorem DsK17 {W : World} (hW : LibW W) : DsE17.Ok Tryz.prog (KG W) := Ent.ok_of mixed (known_ok hW) Tab.ok_nil DsT17
def DsE18 : Ent := ⟨30, (.cons (.str 1071 DsS17) (.cons (.str 1 10) .nil)), ⟨[], 1448⟩, (.tup (avs [(.str 28 DsS18), (.str 1042 DsS19), (.bool true)])), ⟨[], 1460⟩⟩
theorem DsT18 : Ent.check Tryz.prog known [] 990 DsE18 = true := by kernel_rfl
theorem DsK18 {W : World} (hW : LibW W) : DsE18.Ok Tryz.prog (KG W) := Ent.ok_of mixed (known_ok hW) Tab.ok_nil DsT18
def DsE19 : Ent := ⟨32, (.cons (.ptr 1497 0) .nil), ⟨[DsO24], 1498⟩, (.tup (avs [(.agg (avs [(nu 12), (nu 0), (.sl 1540 0 2 3 false)])), (.bool true)])), ⟨[DsO25, DsO26], 1552⟩⟩
theorem DsT19 : Ent.check Tryz.prog known [] 990 DsE19 = true := by kernel_rfl
theorem DsK19 {W : World} (hW : LibW W) : DsE19.Ok Tryz.prog (KG W) := Ent.ok_of mixed (known_ok hW) Tab.ok_nil DsT19
def DsE20 : Ent := ⟨30, (.cons (.str 1042 DsS19) (.cons (.str 1 10) .nil)), ⟨[], 1566⟩, (.tup (avs [(.str 29 DsS20), (.str 1012 DsS21), (.bool true)])), ⟨[], 1578⟩⟩
theorem DsT20 : Ent.check Tryz.prog known [] 990 DsE20 = true := by kernel_rfl
theorem DsK20 {W : World} (hW : LibW W) : DsE20.Ok Tryz.prog (KG W) := Ent.ok_of mixed (known_ok hW) Tab.ok_nil DsT20
def DsE21 : Ent := ⟨32, (.cons (.ptr 1615 0) .nil), ⟨[DsO27], 1616⟩, (.tup (avs [(.agg (avs [(nu 12), (nu 0), (.sl 1658 0 2 3 false)])), (.bool true)])), ⟨[DsO28, DsO29], 1670⟩⟩
theorem DsT21 : Ent.check Tryz.prog known [] 990 DsE21 = true := by kernel_rfl
theorem DsK21 {W : World} (hW : LibW W) : DsE21.Ok Tryz.prog (KG W) := Ent.ok_of mixed (known_ok hW) Tab.ok_nil DsT21
def DsE22 : Ent := ⟨30, (.cons (.str 1012 DsS21) (.cons (.str 1 10) .nil)), ⟨[], 1684⟩, (.tup (avs [(.str 28 DsS22), (.str 983 DsS23), (.bool true)])), ⟨[], 1696⟩⟩
theorem DsT22 : Ent.check Tryz.prog known [] 990 DsE22 = true := by kernel_rfl
theorem DsK22 {W : World} (hW : LibW W) : DsE22.Ok Tryz.prog (KG W) := Ent.ok_of mixed (known_ok hW) Tab.ok_nil DsT22
def DsE23 : Ent := ⟨32, (.cons (.ptr 1733 0) .nil), ⟨[DsO30], 1734⟩, (.tup (avs [(.agg (avs [(nu 13), (nu 0), (.sl 1777 0 2 3 false)])), (.bool true)])), ⟨[DsO31, DsO32], 1789⟩⟩
theorem DsT23 : Ent.check Tryz.prog known [] 990 DsE23 = true := by kernel_rfl
theorem DsK23 {W : World} (hW : LibW W) : DsE23.Ok Tryz.prog (KG W) := Ent.ok_of mixed (known_ok hW) Tab.ok_nil DsT23
def DsE24 : Ent := ⟨30, (.cons (.str 983 DsS23) (.cons (.str 1 10) .nil)), ⟨[], 1803⟩, (.tup (avs [(.str 29 DsS24), (.str 953 DsS25), (.bool true)])), ⟨[], 1815⟩⟩
theorem DsT24 : Ent.check Tryz.prog known [] 990 DsE24 = true := by kernel_rfl
theorem DsK24 {W : World} (hW : LibW W) : DsE24.Ok Tryz.prog (KG W) := Ent.ok_of mixed (known_ok hW) Tab.ok_nil DsT24
def DsE25 : Ent := ⟨32, (.cons (.ptr 1852 0) .nil), ⟨[DsO33], 1853⟩, (.tup (avs [(.agg (avs [(nu 13), (nu 0), (.sl 1896 0 2 3 false)])), (.bool true)])), ⟨[DsO34, DsO35], 1908⟩⟩
theorem DsT25 : Ent.check Tryz.prog known [] 990 DsE25 = true := by kernel_rfl
theorem DsK25 {W : World} (hW : LibW W) : DsE25.Ok Tryz.prog (KG W) := Ent.ok_of mixed (known_ok hW) Tab.ok_nil DsT25
def DsE26 : Ent := ⟨30, (.cons (.str 953 DsS25) (.cons (.str 1 10) .nil)), ⟨[], 1922⟩, (.tup (avs [(.str 28 DsS26), (.str 924 DsS27), (.bool true)])), ⟨[], 1934⟩⟩
theorem DsT26 : Ent.check Tryz.prog known [] 990 DsE26 = true := by kernel_rfl
theorem DsK26 {W : World} (hW : LibW W) : DsE26.Ok Tryz.prog (KG W) := Ent.ok_of mixed (known_ok hW) Tab.ok_nil DsT26
def DsE27 : Ent := ⟨32, (.cons (.ptr 1971 0) .nil), ⟨[DsO36], 1972⟩, (.tup (avs [(.agg (avs [(nu 14), (nu 0), (.sl 2016 0 2 3 false)])), (.bool true)])), ⟨[DsO37, DsO38], 2028⟩⟩
theorem DsT27 : Ent.check Tryz.prog known [] 990 DsE27 = true := by kernel_rfl
theorem DsK27 {W : World} (hW : LibW W) : DsE27.Ok Tryz.prog (KG W) := Ent.ok_of mixed (known_ok hW) Tab.ok_nil DsT27
def DsE28 : Ent := ⟨30, (.cons (.str 924 DsS27) (.cons (.str 1 10) .nil)), ⟨[], 2042⟩, (.tup (avs [(.str 29 DsS28), (.str 894 DsS29), (.bool true)])), ⟨[], 2054⟩⟩
theorem DsT28 : Ent.check Tryz.prog known [] 990 DsE28 = true := by kernel_rfl
theorem DsK28 {W : World} (hW : LibW W) : DsE28.Ok Tryz.prog (KG W) := Ent.ok_of mixed (known_ok hW) Tab.ok_nil DsT28
def DsE29 : Ent := ⟨32, (.cons (.ptr 2092 0) .nil), ⟨[DsO39], 2093⟩, (.tup (avs [(.agg (avs [(nu 15), (nu 0), (.sl 2138 0 2 3 false)])), (.bool true)])), ⟨[DsO40, DsO41], 2150⟩⟩
theorem DsT29 : Ent.check Tryz.prog known [] 990 DsE29 = true := by kernel_rfl
theorem DsK29 {W : World} (hW : LibW W) : DsE29.Ok Tryz.prog (KG W) := Ent.ok_of mixed (known_ok hW) Tab.ok_nil DsT29
def DsE30 : Ent := ⟨30, (.cons (.str 894 DsS29) (.cons (.str 1 10) .nil)), ⟨[], 2164⟩, (.tup (avs [(.str 31 DsS30), (.str 862 DsS31), (.bool true)])), ⟨[], 2176⟩⟩
theorem DsT30 : Ent.check Tryz.prog known [] 990 DsE30 = true := by kernel_rfl
theorem DsK30 {W : World} (hW : LibW W) : DsE30.Ok Tryz.prog (KG W) := Ent.ok_of mixed (known_ok hW) Tab.ok_nil DsT30
def DsE31 : Ent := ⟨32, (.cons (.ptr 2214 0) .nil), ⟨[DsO42], 2215⟩, (.tup (avs [(.agg (avs [(nu 16), (nu 0), (.sl 2261 0 2 3 false)])), (.bool true)])), ⟨[DsO43, DsO44], 2273⟩⟩
theorem DsT31 : Ent.check Tryz.prog known [] 990 DsE31 = true := by kernel_rfl
theorem DsK31 {W : World} (hW : LibW W) : DsE31.Ok Tryz.prog (KG W) := Ent.ok_of mixed (known_ok hW) Tab.ok_nil DsT31
def DsE32 : Ent := ⟨30, (.cons (.str 862 DsS31) (.cons (.str 1 10) .nil)), ⟨[], 2287⟩, (.tup (avs [(.str 29 DsS32), (.str 832 DsS33), (.bool true)])), ⟨[], 2299⟩⟩
theorem DsT32 : Ent.check Tryz.prog known [] 990 DsE32 = true := by kernel_rfl
theorem DsK32 {W : World} (hW : LibW W) : DsE32.Ok Tryz.prog (KG W) := Ent.ok_of mixed (known_ok hW) Tab.ok_nil DsT32
def DsE33 : Ent := ⟨32, (.cons (.ptr 2337 0) .nil), ⟨[DsO45], 2338⟩, (.tup (avs [(.agg (avs [(nu 17), (nu 0), (.sl 2385 0 2 3 false)])), (.bool true)])), ⟨[DsO46, DsO47], 2397⟩⟩
theorem DsT33 : Ent.check Tryz.prog known [] 990 DsE33 = true := by kernel_rfl
theorem DsK33 {W : World} (hW : LibW W) : DsE33.Ok Tryz.prog (KG W) := Ent.ok_of mixed (known_ok hW) Tab.ok_nil DsT33
def DsE34 : Ent := ⟨30, (.cons (.str 832 DsS33) (.cons (.str 1 10) .nil)), ⟨[], 2411⟩, (.tup (avs [(.str 31 DsS34), (.str 800 DsS35), (.bool true)])), ⟨[], 2423⟩⟩
theorem DsT34 : Ent.check Tryz.prog known [] 990 DsE34 = true := by kernel_rfl
theorem DsK34 {W : World} (hW : LibW W) : DsE34.Ok Tryz.prog (KG W) := Ent.ok_of mixed (known_ok hW) Tab.ok_nil DsT34
def DsE35 : Ent := ⟨32, (.cons (.ptr 2461 0) .nil), ⟨[DsO48], 2462⟩, (.tup (avs [(.agg (avs [(nu 18), (nu 0), (.sl 2510 0 2 3 false)])), (.bool true)])), ⟨[DsO49, DsO50], 2522⟩⟩
theorem DsT35 : Ent.check Tryz.prog known [] 990 DsE35 = true := by kernel_rfl
theorem DsK35 {W : World} (hW : LibW W) : DsE35.Ok Tryz.prog (KG W) := Ent.ok_of mixed (known_ok hW) Tab.ok_nil DsT35
def DsE36 : Ent := ⟨30, (.cons (.str 800 DsS35) (.cons (.str 1 10) .nil)), ⟨[], 2536⟩, (.tup (avs [(.str 28 DsS36), (.str 771 DsS37), (.bool true)])), ⟨[], 2548⟩⟩
theorem DsT36 : Ent.check Tryz.prog known [] 990 DsE36 = true := by kernel_rfl
theorem DsK36 {W : World} (hW : LibW W) : DsE36.Ok Tryz.prog (KG W) := Ent.ok_of mixed (known_ok hW) Tab.ok_nil DsT36
def DsE37 : Ent := ⟨32, (.cons (.ptr 2585 0) .nil), ⟨[DsO51], 2586⟩, (.tup (avs [(.agg (avs [(nu 19), (nu 0), (.sl 2635 0 2 3 false)])), (.bool true)])), ⟨[DsO52, DsO53], 2647⟩⟩
theorem DsT37 : Ent.check Tryz.prog known [] 990 DsE37 = true := by kernel_rfl
theorem DsK37 {W : World} (hW : LibW W) : DsE37.Ok Tryz.prog (KG W) := Ent.ok_of mixed (known_ok hW) Tab.ok_nil DsT37
def DsE38 : Ent := ⟨30, (.cons (.str 771 DsS37) (.cons (.str 1 10) .nil)), ⟨[], 2661⟩, (.tup (avs [(.str 29 DsS38), (.str 741 DsS39), (.bool true)])), ⟨[], 2673⟩⟩
theorem DsT38 : Ent.check Tryz.prog known [] 990 DsE38 = true := by kernel_rfl
theorem DsK38 {W : World} (hW : LibW W) : DsE38.Ok Tryz.prog (KG W) := Ent.ok_of mixed (known_ok hW) Tab.ok_nil DsT38
def DsE39 : Ent := ⟨32, (.cons (.ptr 2710 0) .nil), ⟨[DsO54], 2711⟩, (.tup (avs [(.agg (avs [(nu 19), (nu 0), (.sl 2760 0 2 3 false)])), (.bool true)])), ⟨[DsO55, DsO56], 2772⟩⟩
theorem DsT39 : Ent.check Tryz.prog known [] 990 DsE39 = true := by kernel_rfl
theorem DsK39 {W : World} (hW : LibW W) : DsE39.Ok Tryz.prog (KG W) := Ent.ok_of mixed (known_ok hW) Tab.ok_nil DsT39
def DsE40 : Ent := ⟨30, (.cons (.str 741 DsS39) (.cons (.str 1 10) .nil)), ⟨[], 2786⟩, (.tup (avs [(.str 26 DsS40), (.str 714 DsS41), (.bool true)])), ⟨[], 2798⟩⟩
theorem DsT40 : Ent.check Tryz.prog known [] 990 DsE40 = true := by kernel_rfl
theorem DsK40 {W : World} (hW : LibW W) : DsE40.Ok Tryz.prog (KG W) := Ent.ok_of mixed (known_ok hW) Tab.ok_nil DsT40
def DsE41 : Ent := ⟨32, (.cons (.ptr 2835 0) .nil), ⟨[DsO57], 2836⟩, (.tup (avs [(.agg (avs [(nu 20), (nu 0), (.sl 2886 0 2 3 false)])), (.bool true)])), ⟨[DsO58, DsO59], 2898⟩⟩
theorem DsT41 : Ent.check Tryz.prog known [] 990 DsE41 = true := by kernel_rfl
theorem DsK41 {W : World} (hW : LibW W) : DsE41.Ok Tryz.prog (KG W) := Ent.ok_of mixed (known_ok hW) Tab.ok_nil DsT41
def DsE42 : Ent := ⟨30, (.cons (.str 714 DsS41) (.cons (.str 1 10) .nil)), ⟨[], 2912⟩, (.tup (avs [(.str 27 DsS42), (.str 686 DsS43), (.bool true)])), ⟨[], 2924⟩⟩
theorem DsT42 : Ent.check Tryz.prog known [] 990 DsE42 = true := by kernel_rfl
theorem DsK42 {W : World} (hW : LibW W) : DsE42.Ok Tryz.prog (KG W) := Ent.ok_of mixed (known_ok hW) Tab.ok_nil DsT42
def DsE43 : Ent := ⟨32, (.cons (.ptr 2961 0) .nil), ⟨[DsO60], 2962⟩, (.tup (avs [(.agg (avs [(nu 20), (nu 0), (.sl 3012 0 2 3 false)])), (.bool true)])), ⟨[DsO61, DsO62], 3024⟩⟩
theorem DsT43 : Ent.check Tryz.prog known [] 990 DsE43 = true := by kernel_rfl
theorem DsK43 {W : World} (hW : LibW W) : DsE43.Ok Tryz.prog (KG W) := Ent.ok_of mixed (known_ok hW) Tab.ok_nil DsT43
def DsE44 : Ent := ⟨30, (.cons (.str 686 DsS43) (.cons (.str 1 10) .nil)), ⟨[], 3038⟩, (.tup (avs [(.str 28 DsS44), (.str 657 DsS45), (.bool true)])), ⟨[], 3050⟩⟩
theorem DsT44 : Ent.check Tryz.prog known [] 990 DsE44 = true := by kernel_rfl
theorem DsK44 {W : World} (hW : LibW W) : DsE44.Ok Tryz.prog (KG W) := Ent.ok_of mixed (known_ok hW) Tab.ok_nil DsT44
def DsE45 : Ent := ⟨32, (.cons (.ptr 3087 0) .nil), ⟨[DsO63], 3088⟩, (.tup (avs [(.agg (avs [(nu 21), (nu 0), (.sl 3139 0 2 3 false)])), (.bool true)])), ⟨[DsO64, DsO65], 3151⟩⟩
theorem DsT45 : Ent.check Tryz.prog known [] 990 DsE45 = true := by kernel_rfl
theorem DsK45 {W : World} (hW : LibW W) : DsE45.Ok Tryz.prog (KG W) := Ent.ok_of mixed (known_ok hW) Tab.ok_nil DsT45
def DsE46 : Ent := ⟨30, (.cons (.str 657 DsS45) (.cons (.str 1 10) .nil)), ⟨[], 3165⟩, (.tup (avs [(.str 29 DsS46), (.str 627 DsS47), (.bool true)])), ⟨[], 3177⟩⟩
theorem DsT46 : Ent.check Tryz.prog known [] 990 DsE46 = true := by kernel_rfl
theorem DsK46 {W : World} (hW : LibW W) : DsE46.Ok Tryz.prog (KG W) := Ent.ok_of mixed (known_ok hW) Tab.ok_nil DsT46
def DsE47 : Ent := ⟨32, (.cons (.ptr 3214 0) .nil), ⟨[DsO66], 3215⟩, (.tup (avs [(.agg (avs [(nu 21), (nu 0), (.sl 3266 0 2 3 false)])), (.bool true)])), ⟨[DsO67, DsO68], 3278⟩⟩
theorem DsT47 : Ent.check Tryz.prog known [] 990 DsE47 = true := by kernel_rfl
theorem DsK47 {W : World} (hW : LibW W) : DsE47.Ok Tryz.prog (KG W) := Ent.ok_of mixed (known_ok hW) Tab.ok_nil DsT47
def DsE48 : Ent := ⟨30, (.cons (.str 627 DsS47) (.cons (.str 1 10) .nil)), ⟨[], 3292⟩, (.tup (avs [(.str 28 DsS48), (.str 598 DsS49), (.bool true)])), ⟨[], 3304⟩⟩
theorem DsT48 : Ent.check Tryz.prog known [] 990 DsE48 = true := by kernel_rfl
theorem DsK48 {W : World} (hW : LibW W) : DsE48.Ok Tryz.prog (KG W) := Ent.ok_of mixed (known_ok hW) Tab.ok_nil DsT48
def DsE49 : Ent := ⟨32, (.cons (.ptr 3341 0) .nil), ⟨[DsO69], 3342⟩, (.tup (avs [(.agg (avs [(nu 22), (nu 0), (.sl 3394 0 2 3 false)])), (.bool true)])), ⟨[DsO70, DsO71], 3406⟩⟩
theorem DsT49 : Ent.check Tryz.prog known [] 990 DsE49 = true := by kernel_rfl
theorem DsK49 {W : World} (hW : LibW W) : DsE49.Ok Tryz.prog (KG W) := Ent.ok_of mixed (known_ok hW) Tab.ok_nil DsT49
def DsE50 : Ent := ⟨30, (.cons (.str 598 DsS49) (.cons (.str 1 10) .nil)), ⟨[], 3420⟩, (.tup (avs [(.str 29 DsS50), (.str 568 DsS51), (.bool true)])), ⟨[], 3432⟩⟩
theorem DsT50 : Ent.check Tryz.prog known [] 990 DsE50 = true := by kernel_rfl
theorem DsK50 {W : World} (hW : LibW W) : DsE50.Ok Tryz.prog (KG W) := Ent.ok_of mixed (known_ok hW) Tab.ok_nil DsT50
def DsE51 : Ent := ⟨32, (.cons (.ptr 3469 0) .nil), ⟨[DsO72], 3470⟩, (.tup (avs [(.agg (avs [(nu 22), (nu 0), (.sl 3522 0 2 3 false)])), (.bool true)])), ⟨[DsO73, DsO74], 3534⟩⟩
theorem DsT51 : Ent.check Tryz.prog known [] 990 DsE51 = true := by kernel_rfl
theorem DsK51 {W : World} (hW : LibW W) : DsE51.Ok Tryz.prog (KG W) := Ent.ok_of mixed (known_ok hW) Tab.ok_nil DsT51
def DsE52 : Ent := ⟨30, (.cons (.str 568 DsS51) (.cons (.str 1 10) .nil)), ⟨[], 3548⟩, (.tup (avs [(.str 28 DsS52), (.str 539 DsS53), (.bool true)])), ⟨[], 3560⟩⟩
theorem DsT52 : Ent.check Tryz.prog known [] 990 DsE52 = true := by kernel_rfl
theorem DsK52 {W : World} (hW : LibW W) : DsE52.Ok Tryz.prog (KG W) := Ent.ok_of mixed (known_ok hW) Tab.ok_nil DsT52
def DsE53 : Ent := ⟨32, (.cons (.ptr 3597 0) .nil), ⟨[DsO75], 3598⟩, (.tup (avs [(.agg (avs [(nu 23), (nu 0), (.sl 3651 0 2 3 false)])), (.bool true)])), ⟨[DsO76, DsO77], 3663⟩⟩
theorem DsT53 : Ent.check Tryz.prog known [] 990 DsE53 = true := by kernel_rfl
theorem DsK53 {W : World} (hW : LibW W) : DsE53.Ok Tryz.prog (KG W) := Ent.ok_of mixed (known_ok hW) Tab.ok_nil DsT53
def DsE54 : Ent := ⟨30, (.cons (.str 539 DsS53) (.cons (.str 1 10) .nil)), ⟨[], 3677⟩, (.tup (avs [(.str 29 DsS54), (.str 509 DsS55), (.bool true)])), ⟨[], 3689⟩⟩
theorem DsT54 : Ent.check Tryz.prog known [] 990 DsE54 = true := by kernel_rfl
theorem DsK54 {W : World} (hW : LibW W) : DsE54.Ok Tryz.prog (KG W) := Ent.ok_of mixed (known_ok hW) Tab.ok_nil DsT54
def DsE55 : Ent := ⟨32, (.cons (.ptr 3726 0) .nil), ⟨[DsO78], 3727⟩, (.tup (avs [(.agg (avs [(nu 23), (nu 0), (.sl 3780 0 2 3 false)])), (.bool true)])), ⟨[DsO79, DsO80], 3792⟩⟩
theorem DsT55 : Ent.check Tryz.prog known [] 990 DsE55 = true := by kernel_rfl
theorem DsK55 {W : World} (hW : LibW W) : DsE55.Ok Tryz.prog (KG W) := Ent.ok_of mixed (known_ok hW) Tab.ok_nil DsT55
def DsE56 : Ent := ⟨30, (.cons (.str 509 DsS55) (.cons (.str 1 10) .nil)), ⟨[], 3806⟩, (.tup (avs [(.str 28 DsS56), (.str 480 DsS57), (.bool true)])), ⟨[], 3818⟩⟩
theorem DsT56 : Ent.check Tryz.prog known [] 990 DsE56 = true := by kernel_rfl
theorem DsK56 {W : World} (hW : LibW W) : DsE56.Ok Tryz.prog (KG W) := Ent.ok_of mixed (known_ok hW) Tab.ok_nil DsT56
def DsE57 : Ent := ⟨32, (.cons (.ptr 3855 0) .nil), ⟨[DsO81], 3856⟩, (.tup (avs [(.agg (avs [(nu 24), (nu 0), (.sl 3910 0 2 3 false)])), (.bool true)])), ⟨[DsO82, DsO83], 3922⟩⟩
theorem DsT57 : Ent.check Tryz.prog known [] 990 DsE57 = true := by kernel_rfl
theorem DsK57 {W : World} (hW : LibW W) : DsE57.Ok Tryz.prog (KG W) := Ent.ok_of mixed (known_ok hW) Tab.ok_nil DsT57
def DsE58 : Ent := ⟨30, (.cons (.str 480 DsS57) (.cons (.str 1 10) .nil)), ⟨[], 3936⟩, (.tup (avs [(.str 29 DsS58), (.str 450 DsS59), (.bool true)])), ⟨[], 3948⟩⟩
theorem DsT58 : Ent.check Tryz.prog known [] 990 DsE58 = true := by kernel_rfl
theorem DsK58 {W : World} (hW : LibW W) : DsE58.Ok Tryz.prog (KG W) := Ent.ok_of mixed (known_ok hW) Tab.ok_nil DsT58
def DsE59 : Ent := ⟨32, (.cons (.ptr 3985 0) .nil), ⟨[DsO84], 3986⟩, (.tup (avs [(.agg (avs [(nu 24), (nu 0), (.sl 4040 0 2 3 false)])), (.bool true)])), ⟨[DsO85, DsO86], 4052⟩⟩
theorem DsT59 : Ent.check Tryz.prog known [] 990 DsE59 = true := by kernel_rfl
theorem DsK59 {W : World} (hW : LibW W) : DsE59.Ok Tryz.prog (KG W) := Ent.ok_of mixed (known_ok hW) Tab.ok_nil DsT59
end Go.Proofs.YtpepepkfjimoeaaGreatDoor

/- Calls that were proved one by one: what the evaluator says. -/
import Derived.Test.YtfmlgiafkbakcaaGreatDoorDfO
import Derived.Test.YtfmlgiafkbakcaaGreatDoorProg
import Derived.ProofKit
import Derived.Test.YtfmlgiafkbakcaaGreatDoorVy
namespace Go.Proofs.YtfmlgiafkbakcaaGreatDoor
open Go.Proofs.YtfmlgiafkbakcaaGreatDoor.Ev
set_option maxRecDepth 100000

def DfE18 : Ent := ⟨11, (.cons (.fn 29 .nil .nil) (.cons (.fn 28 .nil .nil) .nil)), ⟨[], 7739⟩, (.str 1290 DfS4), ⟨[], 7740⟩⟩
theorem DfT18 : Ent.check Tryz.prog known [] 990 DfE18 = true := by kernel_rfl
theorem DfK18 {W : World} (hW : LibW W) : DfE18.Ok Tryz.prog (KG W) := Ent.ok_of mixed (known_ok hW) Tab.ok_nil DfT18
def DfE19 : Ent := ⟨37, (.cons (.str 28 DfS5) .nil), ⟨[], 7746⟩, (.tup (avs [(.sl 7842 0 15 4 false), (.agg (avs [(nu 0), (nu 0)]))])), ⟨[DfO90], 7843⟩⟩
theorem DfT19 : Ent.check Tryz.prog known [] 990 DfE19 = true := by kernel_rfl
theorem DfK19 {W : World} (hW : LibW W) : DfE19.Ok Tryz.prog (KG W) := Ent.ok_of mixed (known_ok hW) Tab.ok_nil DfT19
def DfE20 : Ent := ⟨383, (.cons (.ptr 7844 0) (.cons (nu 4) (.cons (nu 2) .nil))), ⟨[DfO90, DfO91], 8376⟩, (.agg (avs [(nu 1), (nu 0), (nu 0), (nu 0), (.str 0 0), (nu 1), .nils, (nu 15)])), ⟨[DfO90, DfO92], 8773⟩⟩
theorem DfT20 : Ent.check Tryz.prog known [] 990 DfE20 = true := by kernel_rfl
theorem DfK20 {W : World} (hW : LibW W) : DfE20.Ok Tryz.prog (KG W) := Ent.ok_of mixed (known_ok hW) Tab.ok_nil DfT20
def DfE21 : Ent := ⟨383, (.cons (.ptr 7844 0) (.cons (nu 3) (.cons (nu 6) .nil))), ⟨[DfO90, DfO93], 8239⟩, (.agg (avs [(nu 35), (nu 0), (nu 0), (nu 0), (.str 3 7632240), (nu 0), (.sl 8880 0 1 8 false), (nu 11)])), ⟨[DfO90, DfO94, DfO95], 9103⟩⟩
theorem DfT21 : Ent.check Tryz.prog known [(383, [DfE20])] 990 DfE21 = true := by kernel_rfl
theorem DfK21 {W : World} (hW : LibW W) : DfE21.Ok Tryz.prog (KG W) := Ent.ok_of mixed (known_ok hW) (Tab.ok_cons (f := 383) (Ent.ok_cons (DfK20 hW) Ent.ok_nil) Tab.ok_nil) DfT21
def DfE22 : Ent := ⟨383, (.cons (.ptr 7844 0) (.cons (nu 3) (.cons (nu 2) .nil))), ⟨[DfO90, DfO96], 9633⟩, (.agg (avs [(nu 1), (nu 0), (nu 0), (nu 0), (.str 0 0), (nu 3), .nils, (nu 25)])), ⟨[DfO90, DfO97], 10030⟩⟩
theorem DfT22 : Ent.check Tryz.prog known [] 990 DfE22 = true := by kernel_rfl
theorem DfK22 {W : World} (hW : LibW W) : DfE22.Ok Tryz.prog (KG W) := Ent.ok_of mixed (known_ok hW) Tab.ok_nil DfT22
def DfE23 : Ent := ⟨71, (.cons (.ptr 7844 0) (.cons (nu 1) .nil)), ⟨[DfO90, DfO98], 8104⟩, (.sl 10165 0 2 9 false), ⟨[DfO90, DfO99, DfO95, DfO100, DfO101, DfO102], 10206⟩⟩
theorem DfT23 : Ent.check Tryz.prog known [(383, [DfE21, DfE22])] 990 DfE23 = true := by kernel_rfl
theorem DfK23 {W : World} (hW : LibW W) : DfE23.Ok Tryz.prog (KG W) := Ent.ok_of mixed (known_ok hW) (Tab.ok_cons (f := 383) (Ent.ok_cons (DfK21 hW) (Ent.ok_cons (DfK22 hW) Ent.ok_nil)) Tab.ok_nil) DfT23
def DfE24 : Ent := ⟨171, DfQ1a, ⟨[], 10944⟩, DfQ1v 10944, ⟨DfQ1o 10944, 10957⟩⟩
theorem DfT24 : Ent.check Tryz.prog known [] 990 DfE24 = true := by kernel_rfl
theorem DfK24 {W : World} (hW : LibW W) : DfE24.Ok Tryz.prog (KG W) := Ent.ok_of mixed (known_ok hW) Tab.ok_nil DfT24
def DfE25 : Ent := ⟨171, (.cons (.str 13 3283757320815312661992270032748) (.cons (nu 8) .nil)), ⟨[], 11321⟩, (.tup (avs [(.agg (avs [(nu 10), (nu 0), (.sl 11328 0 1 3 false)])), (.str 0 0), (.bool true)])), ⟨[DfO103], 11329⟩⟩
theorem DfT25 : Ent.check Tryz.prog known [] 990 DfE25 = true := by kernel_rfl
theorem DfK25 {W : World} (hW : LibW W) : DfE25.Ok Tryz.prog (KG W) := Ent.ok_of mixed (known_ok hW) Tab.ok_nil DfT25
def DfE26 : Ent := ⟨171, (.cons (.str 13 3283757320815311538291386445676) (.cons (nu 8) .nil)), ⟨[], 11383⟩, (.tup (avs [(.agg (avs [(nu 11), (nu 0), (.sl 11390 0 1 3 false)])), (.str 0 0), (.bool true)])), ⟨[DfO104], 11391⟩⟩
theorem DfT26 : Ent.check Tryz.prog known [] 990 DfE26 = true := by kernel_rfl
theorem DfK26 {W : World} (hW : LibW W) : DfE26.Ok Tryz.prog (KG W) := Ent.ok_of mixed (known_ok hW) Tab.ok_nil DfT26
def DfE27 : Ent := ⟨171, (.cons (.str 13 3280354259547491956060108121185) (.cons (nu 8) .nil)), ⟨[], 11445⟩, (.tup (avs [(.agg (avs [(nu 12), (nu 0), (.sl 11457 0 2 3 false)])), (.str 0 0), (.bool true)])), ⟨[DfO105], 11458⟩⟩
theorem DfT27 : Ent.check Tryz.prog known [] 990 DfE27 = true := by kernel_rfl
theorem DfK27 {W : World} (hW : LibW W) : DfE27.Ok Tryz.prog (KG W) := Ent.ok_of mixed (known_ok hW) Tab.ok_nil DfT27
def DfE28 : Ent := ⟨171, DfQ1a, ⟨[], 11512⟩, DfQ1v 11512, ⟨DfQ1o 11512, 11525⟩⟩
theorem DfT28 : Ent.check Tryz.prog known [] 990 DfE28 = true := by kernel_rfl
theorem DfK28 {W : World} (hW : LibW W) : DfE28.Ok Tryz.prog (KG W) := Ent.ok_of mixed (known_ok hW) Tab.ok_nil DfT28
def DfE29 : Ent := ⟨171, (.cons (.str 13 3280354259547491956060107994483) (.cons (nu 8) .nil)), ⟨[], 11579⟩, (.tup (avs [(.agg (avs [(nu 13), (nu 0), (.sl 11591 0 2 3 false)])), (.str 0 0), (.bool true)])), ⟨[DfO106], 11592⟩⟩
theorem DfT29 : Ent.check Tryz.prog known [] 990 DfE29 = true := by kernel_rfl
theorem DfK29 {W : World} (hW : LibW W) : DfE29.Ok Tryz.prog (KG W) := Ent.ok_of mixed (known_ok hW) Tab.ok_nil DfT29
def DfE30 : Ent := ⟨171, (.cons (.str 13 3282220798511678597679047406963) (.cons (nu 8) .nil)), ⟨[], 11646⟩, (.tup (avs [(.agg (avs [(nu 13), (nu 0), (.sl 11658 0 2 3 false)])), (.str 0 0), (.bool true)])), ⟨[DfO107], 11659⟩⟩
theorem DfT30 : Ent.check Tryz.prog known [] 990 DfE30 = true := by kernel_rfl
theorem DfK30 {W : World} (hW : LibW W) : DfE30.Ok Tryz.prog (KG W) := Ent.ok_of mixed (known_ok hW) Tab.ok_nil DfT30
def DfE31 : Ent := ⟨171, (.cons (.str 13 3280354259547491956060108649837) (.cons (nu 8) .nil)), ⟨[], 11713⟩, (.tup (avs [(.agg (avs [(nu 14), (nu 0), (.sl 11725 0 2 3 false)])), (.str 0 0), (.bool true)])), ⟨[DfO108], 11726⟩⟩
theorem DfT31 : Ent.check Tryz.prog known [] 990 DfE31 = true := by kernel_rfl
theorem DfK31 {W : World} (hW : LibW W) : DfE31.Ok Tryz.prog (KG W) := Ent.ok_of mixed (known_ok hW) Tab.ok_nil DfT31
def DfE32 : Ent := ⟨171, (.cons (.str 13 3280354259547491956060109302116) (.cons (nu 8) .nil)), ⟨[], 11780⟩, (.tup (avs [(.agg (avs [(nu 15), (nu 0), (.sl 11792 0 2 3 false)])), (.str 0 0), (.bool true)])), ⟨[DfO109], 11793⟩⟩
theorem DfT32 : Ent.check Tryz.prog known [] 990 DfE32 = true := by kernel_rfl
theorem DfK32 {W : World} (hW : LibW W) : DfE32.Ok Tryz.prog (KG W) := Ent.ok_of mixed (known_ok hW) Tab.ok_nil DfT32
def DfE33 : Ent := ⟨171, (.cons (.str 14 839770690444157940751387965417828) (.cons (nu 8) .nil)), ⟨[], 11847⟩, (.tup (avs [(.agg (avs [(nu 16), (nu 0), (.sl 11859 0 2 3 false)])), (.str 0 0), (.bool true)])), ⟨[DfO110], 11860⟩⟩
theorem DfT33 : Ent.check Tryz.prog known [] 990 DfE33 = true := by kernel_rfl
theorem DfK33 {W : World} (hW : LibW W) : DfE33.Ok Tryz.prog (KG W) := Ent.ok_of mixed (known_ok hW) Tab.ok_nil DfT33
def DfE34 : Ent := ⟨171, (.cons (.str 13 3280354259547491956060108711282) (.cons (nu 8) .nil)), ⟨[], 11914⟩, (.tup (avs [(.agg (avs [(nu 17), (nu 0), (.sl 11926 0 2 3 false)])), (.str 0 0), (.bool true)])), ⟨[DfO111], 11927⟩⟩
theorem DfT34 : Ent.check Tryz.prog known [] 990 DfE34 = true := by kernel_rfl
theorem DfK34 {W : World} (hW : LibW W) : DfE34.Ok Tryz.prog (KG W) := Ent.ok_of mixed (known_ok hW) Tab.ok_nil DfT34
def DfE35 : Ent := ⟨171, (.cons (.str 14 839770690444157940751387964826994) (.cons (nu 8) .nil)), ⟨[], 11981⟩, (.tup (avs [(.agg (avs [(nu 18), (nu 0), (.sl 11993 0 2 3 false)])), (.str 0 0), (.bool true)])), ⟨[DfO112], 11994⟩⟩
theorem DfT35 : Ent.check Tryz.prog known [] 990 DfE35 = true := by kernel_rfl
theorem DfK35 {W : World} (hW : LibW W) : DfE35.Ok Tryz.prog (KG W) := Ent.ok_of mixed (known_ok hW) Tab.ok_nil DfT35
def DfE36 : Ent := ⟨171, (.cons (.str 13 3280354259547491956060108123745) (.cons (nu 8) .nil)), ⟨[], 12048⟩, (.tup (avs [(.agg (avs [(nu 19), (nu 0), (.sl 12060 0 2 3 false)])), (.str 0 0), (.bool true)])), ⟨[DfO113], 12061⟩⟩
theorem DfT36 : Ent.check Tryz.prog known [] 990 DfE36 = true := by kernel_rfl
theorem DfK36 {W : World} (hW : LibW W) : DfE36.Ok Tryz.prog (KG W) := Ent.ok_of mixed (known_ok hW) Tab.ok_nil DfT36
def DfE37 : Ent := ⟨171, (.cons (.str 13 3282220798511678597679047536225) (.cons (nu 8) .nil)), ⟨[], 12115⟩, (.tup (avs [(.agg (avs [(nu 19), (nu 0), (.sl 12127 0 2 3 false)])), (.str 0 0), (.bool true)])), ⟨[DfO114], 12128⟩⟩
theorem DfT37 : Ent.check Tryz.prog known [] 990 DfE37 = true := by kernel_rfl
theorem DfK37 {W : World} (hW : LibW W) : DfE37.Ok Tryz.prog (KG W) := Ent.ok_of mixed (known_ok hW) Tab.ok_nil DfT37
def DfE38 : Ent := ⟨171, (.cons (.str 12 12813883826357390453359800943) (.cons (nu 8) .nil)), ⟨[], 12182⟩, (.tup (avs [(.agg (avs [(nu 20), (nu 0), (.sl 12194 0 2 3 false)])), (.str 0 0), (.bool true)])), ⟨[DfO115], 12195⟩⟩
theorem DfT38 : Ent.check Tryz.prog known [] 990 DfE38 = true := by kernel_rfl
theorem DfK38 {W : World} (hW : LibW W) : DfE38.Ok Tryz.prog (KG W) := Ent.ok_of mixed (known_ok hW) Tab.ok_nil DfT38
def DfE39 : Ent := ⟨171, (.cons (.str 12 12821174994186244522183783023) (.cons (nu 8) .nil)), ⟨[], 12249⟩, (.tup (avs [(.agg (avs [(nu 20), (nu 0), (.sl 12261 0 2 3 false)])), (.str 0 0), (.bool true)])), ⟨[DfO116], 12262⟩⟩
theorem DfT39 : Ent.check Tryz.prog known [] 990 DfE39 = true := by kernel_rfl
theorem DfK39 {W : World} (hW : LibW W) : DfE39.Ok Tryz.prog (KG W) := Ent.ok_of mixed (known_ok hW) Tab.ok_nil DfT39
def DfE40 : Ent := ⟨171, (.cons (.str 13 3280354259547491956060109041528) (.cons (nu 8) .nil)), ⟨[], 12316⟩, (.tup (avs [(.agg (avs [(nu 21), (nu 0), (.sl 12328 0 2 3 false)])), (.str 0 0), (.bool true)])), ⟨[DfO117], 12329⟩⟩
theorem DfT40 : Ent.check Tryz.prog known [] 990 DfE40 = true := by kernel_rfl
theorem DfK40 {W : World} (hW : LibW W) : DfE40.Ok Tryz.prog (KG W) := Ent.ok_of mixed (known_ok hW) Tab.ok_nil DfT40
def DfE41 : Ent := ⟨171, (.cons (.str 13 3282220798511678597679048454008) (.cons (nu 8) .nil)), ⟨[], 12383⟩, (.tup (avs [(.agg (avs [(nu 21), (nu 0), (.sl 12395 0 2 3 false)])), (.str 0 0), (.bool true)])), ⟨[DfO118], 12396⟩⟩
theorem DfT41 : Ent.check Tryz.prog known [] 990 DfE41 = true := by kernel_rfl
theorem DfK41 {W : World} (hW : LibW W) : DfE41.Ok Tryz.prog (KG W) := Ent.ok_of mixed (known_ok hW) Tab.ok_nil DfT41
def DfE42 : Ent := ⟨171, (.cons (.str 13 3280354259547491956060108646515) (.cons (nu 8) .nil)), ⟨[], 12450⟩, (.tup (avs [(.agg (avs [(nu 22), (nu 0), (.sl 12462 0 2 3 false)])), (.str 0 0), (.bool true)])), ⟨[DfO119], 12463⟩⟩
theorem DfT42 : Ent.check Tryz.prog known [] 990 DfE42 = true := by kernel_rfl
theorem DfK42 {W : World} (hW : LibW W) : DfE42.Ok Tryz.prog (KG W) := Ent.ok_of mixed (known_ok hW) Tab.ok_nil DfT42
def DfE43 : Ent := ⟨171, (.cons (.str 13 3282220798511678597679048058995) (.cons (nu 8) .nil)), ⟨[], 12517⟩, (.tup (avs [(.agg (avs [(nu 22), (nu 0), (.sl 12529 0 2 3 false)])), (.str 0 0), (.bool true)])), ⟨[DfO120], 12530⟩⟩
theorem DfT43 : Ent.check Tryz.prog known [] 990 DfE43 = true := by kernel_rfl
theorem DfK43 {W : World} (hW : LibW W) : DfE43.Ok Tryz.prog (KG W) := Ent.ok_of mixed (known_ok hW) Tab.ok_nil DfT43
def DfE44 : Ent := ⟨171, (.cons (.str 13 3280354259547491956060109039731) (.cons (nu 8) .nil)), ⟨[], 12584⟩, (.tup (avs [(.agg (avs [(nu 23), (nu 0), (.sl 12596 0 2 3 false)])), (.str 0 0), (.bool true)])), ⟨[DfO121], 12597⟩⟩
theorem DfT44 : Ent.check Tryz.prog known [] 990 DfE44 = true := by kernel_rfl
theorem DfK44 {W : World} (hW : LibW W) : DfE44.Ok Tryz.prog (KG W) := Ent.ok_of mixed (known_ok hW) Tab.ok_nil DfT44
def DfE45 : Ent := ⟨171, (.cons (.str 13 3282220798511678597679048452211) (.cons (nu 8) .nil)), ⟨[], 12651⟩, (.tup (avs [(.agg (avs [(nu 23), (nu 0), (.sl 12663 0 2 3 false)])), (.str 0 0), (.bool true)])), ⟨[DfO122], 12664⟩⟩
theorem DfT45 : Ent.check Tryz.prog known [] 990 DfE45 = true := by kernel_rfl
theorem DfK45 {W : World} (hW : LibW W) : DfE45.Ok Tryz.prog (KG W) := Ent.ok_of mixed (known_ok hW) Tab.ok_nil DfT45
def DfE46 : Ent := ⟨171, (.cons (.str 13 3280354259547491956060109037939) (.cons (nu 8) .nil)), ⟨[], 12718⟩, (.tup (avs [(.agg (avs [(nu 24), (nu 0), (.sl 12730 0 2 3 false)])), (.str 0 0), (.bool true)])), ⟨[DfO123], 12731⟩⟩
theorem DfT46 : Ent.check Tryz.prog known [] 990 DfE46 = true := by kernel_rfl
theorem DfK46 {W : World} (hW : LibW W) : DfE46.Ok Tryz.prog (KG W) := Ent.ok_of mixed (known_ok hW) Tab.ok_nil DfT46
def DfE47 : Ent := ⟨171, (.cons (.str 13 3282220798511678597679048450419) (.cons (nu 8) .nil)), ⟨[], 12785⟩, (.tup (avs [(.agg (avs [(nu 24), (nu 0), (.sl 12797 0 2 3 false)])), (.str 0 0), (.bool true)])), ⟨[DfO124], 12798⟩⟩
theorem DfT47 : Ent.check Tryz.prog known [] 990 DfE47 = true := by kernel_rfl
theorem DfK47 {W : World} (hW : LibW W) : DfE47.Ok Tryz.prog (KG W) := Ent.ok_of mixed (known_ok hW) Tab.ok_nil DfT47
def DfE48 : Ent := ⟨171, (.cons (.str 12 12813883826357390453359800677) (.cons (nu 8) .nil)), ⟨[], 12852⟩, (.tup (avs [(.agg (avs [(nu 25), (nu 0), (.sl 12864 0 2 3 false)])), (.str 0 0), (.bool true)])), ⟨[DfO125], 12865⟩⟩
theorem DfT48 : Ent.check Tryz.prog known [] 990 DfE48 = true := by kernel_rfl
theorem DfK48 {W : World} (hW : LibW W) : DfE48.Ok Tryz.prog (KG W) := Ent.ok_of mixed (known_ok hW) Tab.ok_nil DfT48
def DfE49 : Ent := ⟨171, (.cons (.str 12 12821174994186244522183782757) (.cons (nu 8) .nil)), ⟨[], 12919⟩, (.tup (avs [(.agg (avs [(nu 25), (nu 0), (.sl 12931 0 2 3 false)])), (.str 0 0), (.bool true)])), ⟨[DfO126], 12932⟩⟩
theorem DfT49 : Ent.check Tryz.prog known [] 990 DfE49 = true := by kernel_rfl
theorem DfK49 {W : World} (hW : LibW W) : DfE49.Ok Tryz.prog (KG W) := Ent.ok_of mixed (known_ok hW) Tab.ok_nil DfT49
def DfE50 : Ent := ⟨171, (.cons (.str 12 12813883826357390453359797614) (.cons (nu 8) .nil)), ⟨[], 12986⟩, (.tup (avs [(.agg (avs [(nu 26), (nu 0), (.sl 12998 0 2 3 false)])), (.str 0 0), (.bool true)])), ⟨[DfO127], 12999⟩⟩
theorem DfT50 : Ent.check Tryz.prog known [] 990 DfE50 = true := by kernel_rfl
theorem DfK50 {W : World} (hW : LibW W) : DfE50.Ok Tryz.prog (KG W) := Ent.ok_of mixed (known_ok hW) Tab.ok_nil DfT50
def DfE51 : Ent := ⟨171, (.cons (.str 12 12821174994186244522183779694) (.cons (nu 8) .nil)), ⟨[], 13053⟩, (.tup (avs [(.agg (avs [(nu 26), (nu 0), (.sl 13065 0 2 3 false)])), (.str 0 0), (.bool true)])), ⟨[DfO128], 13066⟩⟩
theorem DfT51 : Ent.check Tryz.prog known [] 990 DfE51 = true := by kernel_rfl
theorem DfK51 {W : World} (hW : LibW W) : DfE51.Ok Tryz.prog (KG W) := Ent.ok_of mixed (known_ok hW) Tab.ok_nil DfT51
def DfE52 : Ent := ⟨171, (.cons (.str 12 12813883826357390453359801452) (.cons (nu 8) .nil)), ⟨[], 13120⟩, (.tup (avs [(.agg (avs [(nu 27), (nu 0), (.sl 13132 0 2 3 false)])), (.str 0 0), (.bool true)])), ⟨[DfO129], 13133⟩⟩
theorem DfT52 : Ent.check Tryz.prog known [] 990 DfE52 = true := by kernel_rfl
theorem DfK52 {W : World} (hW : LibW W) : DfE52.Ok Tryz.prog (KG W) := Ent.ok_of mixed (known_ok hW) Tab.ok_nil DfT52
def DfE53 : Ent := ⟨171, (.cons (.str 12 12821174994186244522183783532) (.cons (nu 8) .nil)), ⟨[], 13187⟩, (.tup (avs [(.agg (avs [(nu 27), (nu 0), (.sl 13199 0 2 3 false)])), (.str 0 0), (.bool true)])), ⟨[DfO130], 13200⟩⟩
theorem DfT53 : Ent.check Tryz.prog known [] 990 DfE53 = true := by kernel_rfl
theorem DfK53 {W : World} (hW : LibW W) : DfE53.Ok Tryz.prog (KG W) := Ent.ok_of mixed (known_ok hW) Tab.ok_nil DfT53
def DfE54 : Ent := ⟨171, (.cons (.str 13 3280354259547491956060109239404) (.cons (nu 8) .nil)), ⟨[], 13254⟩, (.tup (avs [(.agg (avs [(nu 28), (nu 0), (.sl 13266 0 2 3 false)])), (.str 0 0), (.bool true)])), ⟨[DfO131], 13267⟩⟩
theorem DfT54 : Ent.check Tryz.prog known [] 990 DfE54 = true := by kernel_rfl
theorem DfK54 {W : World} (hW : LibW W) : DfE54.Ok Tryz.prog (KG W) := Ent.ok_of mixed (known_ok hW) Tab.ok_nil DfT54
def DfE55 : Ent := ⟨171, (.cons (.str 13 3282220798511678597679048651884) (.cons (nu 8) .nil)), ⟨[], 13321⟩, (.tup (avs [(.agg (avs [(nu 28), (nu 0), (.sl 13333 0 2 3 false)])), (.str 0 0), (.bool true)])), ⟨[DfO132], 13334⟩⟩
theorem DfT55 : Ent.check Tryz.prog known [] 990 DfE55 = true := by kernel_rfl
theorem DfK55 {W : World} (hW : LibW W) : DfE55.Ok Tryz.prog (KG W) := Ent.ok_of mixed (known_ok hW) Tab.ok_nil DfT55
def DfE56 : Ent := ⟨171, (.cons (.str 12 12813883826357390453359797612) (.cons (nu 8) .nil)), ⟨[], 13388⟩, (.tup (avs [(.agg (avs [(nu 29), (nu 0), (.sl 13400 0 2 3 false)])), (.str 0 0), (.bool true)])), ⟨[DfO133], 13401⟩⟩
theorem DfT56 : Ent.check Tryz.prog known [] 990 DfE56 = true := by kernel_rfl
theorem DfK56 {W : World} (hW : LibW W) : DfE56.Ok Tryz.prog (KG W) := Ent.ok_of mixed (known_ok hW) Tab.ok_nil DfT56
end Go.Proofs.YtfmlgiafkbakcaaGreatDoor

/- Calls that were proved one by one: what the evaluator says. -/
import Derived.Test.YtpepepkfjimoeaaGreatDoorDsO
import Derived.Test.YtpepepkfjimoeaaGreatDoorProg
import Derived.ProofKit
import Derived.Test.YtpepepkfjimoeaaGreatDoorVy
namespace Go.Proofs.YtpepepkfjimoeaaGreatDoor
open Go.Proofs.YtpepepkfjimoeaaGreatDoor.Ev
set_option maxRecDepth 100000

def DsE303 : Ent := ⟨36, (.cons (.str 3 7499640) .nil), ⟨[], 49251⟩, (.tup (avs [(.agg (avs [(nu 0), (nu 21), (nu 0), (.sl 49367 0 2 3 true), (nu 0), (.str 3 7499640)])), (.bool true)])), ⟨[DsO348], 49552⟩⟩
theorem DsT303 : Ent.check Tryz.prog known [] 990 DsE303 = true := by kernel_rfl
theorem DsK303 {W : World} (hW : LibW W) : DsE303.Ok Tryz.prog (KG W) := Ent.ok_of mixed (known_ok hW) Tab.ok_nil DsT303
def DsE304 : Ent := ⟨36, (.cons (.str 4 1769107320) .nil), ⟨[], 49592⟩, (.tup (avs [(.agg (avs [(nu 0), (nu 21), (nu 0), (.sl 49712 0 2 3 true), (nu 0), (.str 4 1769107320)])), (.bool true)])), ⟨[DsO349], 49893⟩⟩
theorem DsT304 : Ent.check Tryz.prog known [] 990 DsE304 = true := by kernel_rfl
theorem DsK304 {W : World} (hW : LibW W) : DsE304.Ok Tryz.prog (KG W) := Ent.ok_of mixed (known_ok hW) Tab.ok_nil DsT304
def DsE305 : Ent := ⟨36, (.cons (.str 3 7104627) .nil), ⟨[], 49933⟩, (.tup (avs [(.agg (avs [(nu 0), (nu 22), (nu 0), (.sl 50060 0 2 3 true), (nu 0), (.str 3 7104627)])), (.bool true)])), ⟨[DsO350], 50234⟩⟩
theorem DsT305 : Ent.check Tryz.prog known [] 990 DsE305 = true := by kernel_rfl
theorem DsK305 {W : World} (hW : LibW W) : DsE305.Ok Tryz.prog (KG W) := Ent.ok_of mixed (known_ok hW) Tab.ok_nil DsT305
def DsE306 : Ent := ⟨36, (.cons (.str 4 1768712307) .nil), ⟨[], 50274⟩, (.tup (avs [(.agg (avs [(nu 0), (nu 22), (nu 0), (.sl 50405 0 2 3 true), (nu 0), (.str 4 1768712307)])), (.bool true)])), ⟨[DsO351], 50575⟩⟩
theorem DsT306 : Ent.check Tryz.prog known [] 990 DsE306 = true := by kernel_rfl
theorem DsK306 {W : World} (hW : LibW W) : DsE306.Ok Tryz.prog (KG W) := Ent.ok_of mixed (known_ok hW) Tab.ok_nil DsT306
def DsE307 : Ent := ⟨36, (.cons (.str 3 7497843) .nil), ⟨[], 50615⟩, (.tup (avs [(.agg (avs [(nu 0), (nu 23), (nu 0), (.sl 50753 0 2 3 true), (nu 0), (.str 3 7497843)])), (.bool true)])), ⟨[DsO352], 50916⟩⟩
theorem DsT307 : Ent.check Tryz.prog known [] 990 DsE307 = true := by kernel_rfl
theorem DsK307 {W : World} (hW : LibW W) : DsE307.Ok Tryz.prog (KG W) := Ent.ok_of mixed (known_ok hW) Tab.ok_nil DsT307
def DsE308 : Ent := ⟨36, (.cons (.str 4 1769105523) .nil), ⟨[], 50956⟩, (.tup (avs [(.agg (avs [(nu 0), (nu 23), (nu 0), (.sl 51098 0 2 3 true), (nu 0), (.str 4 1769105523)])), (.bool true)])), ⟨[DsO353], 51257⟩⟩
theorem DsT308 : Ent.check Tryz.prog known [] 990 DsE308 = true := by kernel_rfl
theorem DsK308 {W : World} (hW : LibW W) : DsE308.Ok Tryz.prog (KG W) := Ent.ok_of mixed (known_ok hW) Tab.ok_nil DsT308
def DsE309 : Ent := ⟨36, (.cons (.str 3 7496051) .nil), ⟨[], 51297⟩, (.tup (avs [(.agg (avs [(nu 0), (nu 24), (nu 0), (.sl 51446 0 2 3 true), (nu 0), (.str 3 7496051)])), (.bool true)])), ⟨[DsO354], 51598⟩⟩
theorem DsT309 : Ent.check Tryz.prog known [] 990 DsE309 = true := by kernel_rfl
theorem DsK309 {W : World} (hW : LibW W) : DsE309.Ok Tryz.prog (KG W) := Ent.ok_of mixed (known_ok hW) Tab.ok_nil DsT309
def DsE310 : Ent := ⟨36, (.cons (.str 4 1769103731) .nil), ⟨[], 51638⟩, (.tup (avs [(.agg (avs [(nu 0), (nu 24), (nu 0), (.sl 51791 0 2 3 true), (nu 0), (.str 4 1769103731)])), (.bool true)])), ⟨[DsO355], 51939⟩⟩
theorem DsT310 : Ent.check Tryz.prog known [] 990 DsE310 = true := by kernel_rfl
theorem DsK310 {W : World} (hW : LibW W) : DsE310.Ok Tryz.prog (KG W) := Ent.ok_of mixed (known_ok hW) Tab.ok_nil DsT310
def DsE311 : Ent := ⟨36, (.cons (.str 2 29029) .nil), ⟨[], 51979⟩, (.tup (avs [(.agg (avs [(nu 0), (nu 25), (nu 0), (.sl 52139 0 2 3 true), (nu 0), (.str 2 29029)])), (.bool true)])), ⟨[DsO356], 52280⟩⟩
theorem DsT311 : Ent.check Tryz.prog known [] 990 DsE311 = true := by kernel_rfl
theorem DsK311 {W : World} (hW : LibW W) : DsE311.Ok Tryz.prog (KG W) := Ent.ok_of mixed (known_ok hW) Tab.ok_nil DsT311
def DsE312 : Ent := ⟨36, (.cons (.str 3 6910309) .nil), ⟨[], 52320⟩, (.tup (avs [(.agg (avs [(nu 0), (nu 25), (nu 0), (.sl 52484 0 2 3 true), (nu 0), (.str 3 6910309)])), (.bool true)])), ⟨[DsO357], 52621⟩⟩
theorem DsT312 : Ent.check Tryz.prog known [] 990 DsE312 = true := by kernel_rfl
theorem DsK312 {W : World} (hW : LibW W) : DsE312.Ok Tryz.prog (KG W) := Ent.ok_of mixed (known_ok hW) Tab.ok_nil DsT312
def DsE313 : Ent := ⟨36, (.cons (.str 2 25966) .nil), ⟨[], 52661⟩, (.tup (avs [(.agg (avs [(nu 0), (nu 26), (nu 0), (.sl 52832 0 2 3 true), (nu 0), (.str 2 25966)])), (.bool true)])), ⟨[DsO358], 52962⟩⟩
theorem DsT313 : Ent.check Tryz.prog known [] 990 DsE313 = true := by kernel_rfl
theorem DsK313 {W : World} (hW : LibW W) : DsE313.Ok Tryz.prog (KG W) := Ent.ok_of mixed (known_ok hW) Tab.ok_nil DsT313
def DsE314 : Ent := ⟨36, (.cons (.str 3 6907246) .nil), ⟨[], 53002⟩, (.tup (avs [(.agg (avs [(nu 0), (nu 26), (nu 0), (.sl 53177 0 2 3 true), (nu 0), (.str 3 6907246)])), (.bool true)])), ⟨[DsO359], 53303⟩⟩
theorem DsT314 : Ent.check Tryz.prog known [] 990 DsE314 = true := by kernel_rfl
theorem DsK314 {W : World} (hW : LibW W) : DsE314.Ok Tryz.prog (KG W) := Ent.ok_of mixed (known_ok hW) Tab.ok_nil DsT314
def DsE315 : Ent := ⟨36, (.cons (.str 2 29804) .nil), ⟨[], 53343⟩, (.tup (avs [(.agg (avs [(nu 0), (nu 27), (nu 0), (.sl 53525 0 2 3 true), (nu 0), (.str 2 29804)])), (.bool true)])), ⟨[DsO360], 53644⟩⟩
theorem DsT315 : Ent.check Tryz.prog known [] 990 DsE315 = true := by kernel_rfl
theorem DsK315 {W : World} (hW : LibW W) : DsE315.Ok Tryz.prog (KG W) := Ent.ok_of mixed (known_ok hW) Tab.ok_nil DsT315
def DsE316 : Ent := ⟨36, (.cons (.str 3 6911084) .nil), ⟨[], 53684⟩, (.tup (avs [(.agg (avs [(nu 0), (nu 27), (nu 0), (.sl 53870 0 2 3 true), (nu 0), (.str 3 6911084)])), (.bool true)])), ⟨[DsO361], 53985⟩⟩
theorem DsT316 : Ent.check Tryz.prog known [] 990 DsE316 = true := by kernel_rfl
theorem DsK316 {W : World} (hW : LibW W) : DsE316.Ok Tryz.prog (KG W) := Ent.ok_of mixed (known_ok hW) Tab.ok_nil DsT316
def DsE317 : Ent := ⟨36, (.cons (.str 3 7697516) .nil), ⟨[], 54025⟩, (.tup (avs [(.agg (avs [(nu 0), (nu 28), (nu 0), (.sl 54218 0 2 3 true), (nu 0), (.str 3 7697516)])), (.bool true)])), ⟨[DsO362], 54326⟩⟩
theorem DsT317 : Ent.check Tryz.prog known [] 990 DsE317 = true := by kernel_rfl
theorem DsK317 {W : World} (hW : LibW W) : DsE317.Ok Tryz.prog (KG W) := Ent.ok_of mixed (known_ok hW) Tab.ok_nil DsT317
def DsE318 : Ent := ⟨36, (.cons (.str 4 1769305196) .nil), ⟨[], 54366⟩, (.tup (avs [(.agg (avs [(nu 0), (nu 28), (nu 0), (.sl 54563 0 2 3 true), (nu 0), (.str 4 1769305196)])), (.bool true)])), ⟨[DsO363], 54667⟩⟩
theorem DsT318 : Ent.check Tryz.prog known [] 990 DsE318 = true := by kernel_rfl
theorem DsK318 {W : World} (hW : LibW W) : DsE318.Ok Tryz.prog (KG W) := Ent.ok_of mixed (known_ok hW) Tab.ok_nil DsT318
def DsE319 : Ent := ⟨36, (.cons (.str 2 25964) .nil), ⟨[], 54707⟩, (.tup (avs [(.agg (avs [(nu 0), (nu 29), (nu 0), (.sl 54911 0 2 3 true), (nu 0), (.str 2 25964)])), (.bool true)])), ⟨[DsO364], 55008⟩⟩
theorem DsT319 : Ent.check Tryz.prog known [] 990 DsE319 = true := by kernel_rfl
theorem DsK319 {W : World} (hW : LibW W) : DsE319.Ok Tryz.prog (KG W) := Ent.ok_of mixed (known_ok hW) Tab.ok_nil DsT319
def DsE320 : Ent := ⟨36, (.cons (.str 3 6907244) .nil), ⟨[], 55048⟩, (.tup (avs [(.agg (avs [(nu 0), (nu 29), (nu 0), (.sl 55256 0 2 3 true), (nu 0), (.str 3 6907244)])), (.bool true)])), ⟨[DsO365], 55349⟩⟩
theorem DsT320 : Ent.check Tryz.prog known [] 990 DsE320 = true := by kernel_rfl
theorem DsK320 {W : World} (hW : LibW W) : DsE320.Ok Tryz.prog (KG W) := Ent.ok_of mixed (known_ok hW) Tab.ok_nil DsT320
def DsE321 : Ent := ⟨36, (.cons (.str 3 7693676) .nil), ⟨[], 55389⟩, (.tup (avs [(.agg (avs [(nu 0), (nu 30), (nu 0), (.sl 55604 0 2 3 true), (nu 0), (.str 3 7693676)])), (.bool true)])), ⟨[DsO366], 55690⟩⟩
theorem DsT321 : Ent.check Tryz.prog known [] 990 DsE321 = true := by kernel_rfl
theorem DsK321 {W : World} (hW : LibW W) : DsE321.Ok Tryz.prog (KG W) := Ent.ok_of mixed (known_ok hW) Tab.ok_nil DsT321
def DsE322 : Ent := ⟨36, (.cons (.str 4 1769301356) .nil), ⟨[], 55730⟩, (.tup (avs [(.agg (avs [(nu 0), (nu 30), (nu 0), (.sl 55949 0 2 3 true), (nu 0), (.str 4 1769301356)])), (.bool true)])), ⟨[DsO367], 56031⟩⟩
theorem DsT322 : Ent.check Tryz.prog known [] 990 DsE322 = true := by kernel_rfl
theorem DsK322 {W : World} (hW : LibW W) : DsE322.Ok Tryz.prog (KG W) := Ent.ok_of mixed (known_ok hW) Tab.ok_nil DsT322
def DsE323 : Ent := ⟨36, (.cons (.str 4 947157093) .nil), ⟨[], 56071⟩, (.tup (avs [(.agg (avs [(nu 0), (nu 31), (nu 0), (.sl 56295 0 1 3 true), (nu 0), (.str 4 947157093)])), (.bool true)])), ⟨[DsO368], 56372⟩⟩
theorem DsT323 : Ent.check Tryz.prog known [] 990 DsE323 = true := by kernel_rfl
theorem DsK323 {W : World} (hW : LibW W) : DsE323.Ok Tryz.prog (KG W) := Ent.ok_of mixed (known_ok hW) Tab.ok_nil DsT323
def DsE324 : Ent := ⟨36, (.cons (.str 5 232757950565) .nil), ⟨[], 56400⟩, (.tup (avs [(.agg (avs [(nu 0), (nu 32), (nu 0), (.sl 56630 0 1 3 true), (nu 0), (.str 5 232757950565)])), (.bool true)])), ⟨[DsO369], 56701⟩⟩
theorem DsT324 : Ent.check Tryz.prog known [] 990 DsE324 = true := by kernel_rfl
theorem DsK324 {W : World} (hW : LibW W) : DsE324.Ok Tryz.prog (KG W) := Ent.ok_of mixed (known_ok hW) Tab.ok_nil DsT324
def DsE325 : Ent := ⟨36, (.cons (.str 5 215611635813) .nil), ⟨[], 56729⟩, (.tup (avs [(.agg (avs [(nu 0), (nu 33), (nu 0), (.sl 56965 0 1 3 true), (nu 0), (.str 5 215611635813)])), (.bool true)])), ⟨[DsO370], 57030⟩⟩
theorem DsT325 : Ent.check Tryz.prog known [] 990 DsE325 = true := by kernel_rfl
theorem DsK325 {W : World} (hW : LibW W) : DsE325.Ok Tryz.prog (KG W) := Ent.ok_of mixed (known_ok hW) Tab.ok_nil DsT325
def DsE326 : Ent := ⟨36, (.cons (.str 5 242472215930) .nil), ⟨[], 57058⟩, (.tup (avs [(.agg (avs [(nu 0), (nu 34), (nu 0), (.sl 57300 0 1 3 true), (nu 0), (.str 5 242472215930)])), (.bool true)])), ⟨[DsO371], 57359⟩⟩
theorem DsT326 : Ent.check Tryz.prog known [] 990 DsE326 = true := by kernel_rfl
theorem DsK326 {W : World} (hW : LibW W) : DsE326.Ok Tryz.prog (KG W) := Ent.ok_of mixed (known_ok hW) Tab.ok_nil DsT326
def DsE327 : Ent := ⟨36, (.cons (.str 6 59586035344762) .nil), ⟨[], 57387⟩, (.tup (avs [(.agg (avs [(nu 0), (nu 35), (nu 0), (.sl 57635 0 1 3 true), (nu 0), (.str 6 59586035344762)])), (.bool true)])), ⟨[DsO372], 57688⟩⟩
theorem DsT327 : Ent.check Tryz.prog known [] 990 DsE327 = true := by kernel_rfl
theorem DsK327 {W : World} (hW : LibW W) : DsE327.Ok Tryz.prog (KG W) := Ent.ok_of mixed (known_ok hW) Tab.ok_nil DsT327
def DsE328 : Ent := ⟨36, (.cons (.str 6 55196578768250) .nil), ⟨[], 57716⟩, (.tup (avs [(.agg (avs [(nu 0), (nu 36), (nu 0), (.sl 57970 0 1 3 true), (nu 0), (.str 6 55196578768250)])), (.bool true)])), ⟨[DsO373], 58017⟩⟩
theorem DsT328 : Ent.check Tryz.prog known [] 990 DsE328 = true := by kernel_rfl
theorem DsK328 {W : World} (hW : LibW W) : DsE328.Ok Tryz.prog (KG W) := Ent.ok_of mixed (known_ok hW) Tab.ok_nil DsT328
end Go.Proofs.YtpepepkfjimoeaaGreatDoor

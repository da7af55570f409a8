/- Calls that were proved one by one: what the evaluator says. -/
import Derived.Test.YtpepepkfjimoeaaGreatDoorDsO
import Derived.Test.YtpepepkfjimoeaaGreatDoorProg
import Derived.ProofKit
import Derived.Test.YtpepepkfjimoeaaGreatDoorVy
namespace Go.Proofs.YtpepepkfjimoeaaGreatDoor
open Go.Proofs.YtpepepkfjimoeaaGreatDoor.Ev
set_option maxRecDepth 100000

def DsE160 : Ent := ⟨13, (.cons (.sl 6149 0 53 6 false) .nil), ⟨[DsO2, DsO5, DsO8, DsO11, DsO14, DsO17, DsO20, DsO23, DsO26, DsO29, DsO32, DsO35, DsO38, DsO41, DsO44, DsO47, DsO50, DsO53, DsO56, DsO59, DsO62, DsO65, DsO68, DsO71, DsO74, DsO77, DsO80, DsO83, DsO86, DsO89, DsO92, DsO95, DsO98, DsO101, DsO104, DsO107, DsO110, DsO113, DsO116, DsO119, DsO122, DsO125, DsO128, DsO131, DsO134, DsO135], 28040⟩, (.bool true), ⟨[DsO2, DsO5, DsO8, DsO11, DsO14, DsO17, DsO20, DsO23, DsO26, DsO29, DsO32, DsO35, DsO38, DsO41, DsO44, DsO47, DsO50, DsO53, DsO56, DsO59, DsO62, DsO65, DsO68, DsO71, DsO74, DsO77, DsO80, DsO83, DsO86, DsO89, DsO92, DsO95, DsO98, DsO101, DsO104, DsO107, DsO110, DsO113, DsO116, DsO119, DsO122, DsO125, DsO128, DsO131, DsO134, DsO135], 28340⟩⟩
theorem DsT160 : Ent.check Tryz.prog known [] 990 DsE160 = true := by kernel_rfl
theorem DsK160 {W : World} (hW : LibW W) : DsE160.Ok Tryz.prog (KG W) := Ent.ok_of mixed (known_ok hW) Tab.ok_nil DsT160
def DsE161 : Ent := ⟨30, (.cons (.str 1408 DsS92) (.cons (.str 1 10) .nil)), ⟨[], 28966⟩, (.tup (avs [(.str 29 DsS3), (.str 1378 DsS1), (.bool true)])), ⟨[], 28978⟩⟩
theorem DsT161 : Ent.check Tryz.prog known [] 990 DsE161 = true := by kernel_rfl
theorem DsK161 {W : World} (hW : LibW W) : DsE161.Ok Tryz.prog (KG W) := Ent.ok_of mixed (known_ok hW) Tab.ok_nil DsT161
def DsE162 : Ent := ⟨32, (.cons (.ptr 29015 0) .nil), ⟨[DsO181], 29016⟩, (.tup (avs [(.agg (avs [(nu 12), (nu 0), (.sl 29058 0 2 3 false)])), (.bool true)])), ⟨[DsO182, DsO183], 29070⟩⟩
theorem DsT162 : Ent.check Tryz.prog known [] 990 DsE162 = true := by kernel_rfl
theorem DsK162 {W : World} (hW : LibW W) : DsE162.Ok Tryz.prog (KG W) := Ent.ok_of mixed (known_ok hW) Tab.ok_nil DsT162
def DsE163 : Ent := ⟨30, (.cons (.str 1378 DsS1) (.cons (.str 1 10) .nil)), ⟨[], 29084⟩, (.tup (avs [(.str 28 DsS4), (.str 1349 DsS93), (.bool true)])), ⟨[], 29096⟩⟩
theorem DsT163 : Ent.check Tryz.prog known [] 990 DsE163 = true := by kernel_rfl
theorem DsK163 {W : World} (hW : LibW W) : DsE163.Ok Tryz.prog (KG W) := Ent.ok_of mixed (known_ok hW) Tab.ok_nil DsT163
def DsE164 : Ent := ⟨32, (.cons (.ptr 29133 0) .nil), ⟨[DsO184], 29134⟩, (.tup (avs [(.agg (avs [(nu 5), (nu 0), (.sl 29155 0 1 3 false)])), (.bool true)])), ⟨[DsO185, DsO186], 29167⟩⟩
theorem DsT164 : Ent.check Tryz.prog known [] 990 DsE164 = true := by kernel_rfl
theorem DsK164 {W : World} (hW : LibW W) : DsE164.Ok Tryz.prog (KG W) := Ent.ok_of mixed (known_ok hW) Tab.ok_nil DsT164
def DsE165 : Ent := ⟨30, (.cons (.str 1349 DsS93) (.cons (.str 1 10) .nil)), ⟨[], 29181⟩, (.tup (avs [(.str 30 DsS6), (.str 1318 DsS94), (.bool true)])), ⟨[], 29193⟩⟩
theorem DsT165 : Ent.check Tryz.prog known [] 990 DsE165 = true := by kernel_rfl
theorem DsK165 {W : World} (hW : LibW W) : DsE165.Ok Tryz.prog (KG W) := Ent.ok_of mixed (known_ok hW) Tab.ok_nil DsT165
def DsE166 : Ent := ⟨32, (.cons (.ptr 29230 0) .nil), ⟨[DsO187], 29231⟩, (.tup (avs [(.agg (avs [(nu 6), (nu 0), (.sl 29253 0 1 3 false)])), (.bool true)])), ⟨[DsO188, DsO189], 29265⟩⟩
theorem DsT166 : Ent.check Tryz.prog known [] 990 DsE166 = true := by kernel_rfl
theorem DsK166 {W : World} (hW : LibW W) : DsE166.Ok Tryz.prog (KG W) := Ent.ok_of mixed (known_ok hW) Tab.ok_nil DsT166
def DsE167 : Ent := ⟨30, (.cons (.str 1318 DsS94) (.cons (.str 1 10) .nil)), ⟨[], 29279⟩, (.tup (avs [(.str 30 DsS8), (.str 1287 DsS95), (.bool true)])), ⟨[], 29291⟩⟩
theorem DsT167 : Ent.check Tryz.prog known [] 990 DsE167 = true := by kernel_rfl
theorem DsK167 {W : World} (hW : LibW W) : DsE167.Ok Tryz.prog (KG W) := Ent.ok_of mixed (known_ok hW) Tab.ok_nil DsT167
def DsE168 : Ent := ⟨32, (.cons (.ptr 29328 0) .nil), ⟨[DsO190], 29329⟩, (.tup (avs [(.agg (avs [(nu 7), (nu 0), (.sl 29352 0 1 3 false)])), (.bool true)])), ⟨[DsO191, DsO192], 29364⟩⟩
theorem DsT168 : Ent.check Tryz.prog known [] 990 DsE168 = true := by kernel_rfl
theorem DsK168 {W : World} (hW : LibW W) : DsE168.Ok Tryz.prog (KG W) := Ent.ok_of mixed (known_ok hW) Tab.ok_nil DsT168
def DsE169 : Ent := ⟨30, (.cons (.str 1287 DsS95) (.cons (.str 1 10) .nil)), ⟨[], 29378⟩, (.tup (avs [(.str 30 DsS10), (.str 1256 DsS96), (.bool true)])), ⟨[], 29390⟩⟩
theorem DsT169 : Ent.check Tryz.prog known [] 990 DsE169 = true := by kernel_rfl
theorem DsK169 {W : World} (hW : LibW W) : DsE169.Ok Tryz.prog (KG W) := Ent.ok_of mixed (known_ok hW) Tab.ok_nil DsT169
def DsE170 : Ent := ⟨32, (.cons (.ptr 29427 0) .nil), ⟨[DsO193], 29428⟩, (.tup (avs [(.agg (avs [(nu 8), (nu 0), (.sl 29452 0 1 3 false)])), (.bool true)])), ⟨[DsO194, DsO195], 29464⟩⟩
theorem DsT170 : Ent.check Tryz.prog known [] 990 DsE170 = true := by kernel_rfl
theorem DsK170 {W : World} (hW : LibW W) : DsE170.Ok Tryz.prog (KG W) := Ent.ok_of mixed (known_ok hW) Tab.ok_nil DsT170
def DsE171 : Ent := ⟨30, (.cons (.str 1256 DsS96) (.cons (.str 1 10) .nil)), ⟨[], 29478⟩, (.tup (avs [(.str 30 DsS12), (.str 1225 DsS97), (.bool true)])), ⟨[], 29490⟩⟩
theorem DsT171 : Ent.check Tryz.prog known [] 990 DsE171 = true := by kernel_rfl
theorem DsK171 {W : World} (hW : LibW W) : DsE171.Ok Tryz.prog (KG W) := Ent.ok_of mixed (known_ok hW) Tab.ok_nil DsT171
def DsE172 : Ent := ⟨32, (.cons (.ptr 29527 0) .nil), ⟨[DsO196], 29528⟩, (.tup (avs [(.agg (avs [(nu 9), (nu 0), (.sl 29553 0 1 3 false)])), (.bool true)])), ⟨[DsO197, DsO198], 29565⟩⟩
theorem DsT172 : Ent.check Tryz.prog known [] 990 DsE172 = true := by kernel_rfl
theorem DsK172 {W : World} (hW : LibW W) : DsE172.Ok Tryz.prog (KG W) := Ent.ok_of mixed (known_ok hW) Tab.ok_nil DsT172
def DsE173 : Ent := ⟨30, (.cons (.str 1225 DsS97) (.cons (.str 1 10) .nil)), ⟨[], 29579⟩, (.tup (avs [(.str 32 DsS14), (.str 1192 DsS98), (.bool true)])), ⟨[], 29591⟩⟩
theorem DsT173 : Ent.check Tryz.prog known [] 990 DsE173 = true := by kernel_rfl
theorem DsK173 {W : World} (hW : LibW W) : DsE173.Ok Tryz.prog (KG W) := Ent.ok_of mixed (known_ok hW) Tab.ok_nil DsT173
def DsE174 : Ent := ⟨32, (.cons (.ptr 29628 0) .nil), ⟨[DsO199], 29629⟩, (.tup (avs [(.agg (avs [(nu 10), (nu 0), (.sl 29655 0 1 3 false)])), (.bool true)])), ⟨[DsO200, DsO201], 29667⟩⟩
theorem DsT174 : Ent.check Tryz.prog known [] 990 DsE174 = true := by kernel_rfl
theorem DsK174 {W : World} (hW : LibW W) : DsE174.Ok Tryz.prog (KG W) := Ent.ok_of mixed (known_ok hW) Tab.ok_nil DsT174
def DsE175 : Ent := ⟨30, (.cons (.str 1192 DsS98) (.cons (.str 1 10) .nil)), ⟨[], 29681⟩, (.tup (avs [(.str 32 DsS16), (.str 1159 DsS99), (.bool true)])), ⟨[], 29693⟩⟩
theorem DsT175 : Ent.check Tryz.prog known [] 990 DsE175 = true := by kernel_rfl
theorem DsK175 {W : World} (hW : LibW W) : DsE175.Ok Tryz.prog (KG W) := Ent.ok_of mixed (known_ok hW) Tab.ok_nil DsT175
def DsE176 : Ent := ⟨32, (.cons (.ptr 29730 0) .nil), ⟨[DsO202], 29731⟩, (.tup (avs [(.agg (avs [(nu 11), (nu 0), (.sl 29758 0 1 3 false)])), (.bool true)])), ⟨[DsO203, DsO204], 29770⟩⟩
theorem DsT176 : Ent.check Tryz.prog known [] 990 DsE176 = true := by kernel_rfl
theorem DsK176 {W : World} (hW : LibW W) : DsE176.Ok Tryz.prog (KG W) := Ent.ok_of mixed (known_ok hW) Tab.ok_nil DsT176
def DsE177 : Ent := ⟨30, (.cons (.str 1159 DsS99) (.cons (.str 1 10) .nil)), ⟨[], 29784⟩, (.tup (avs [(.str 28 DsS100), (.str 1130 DsS101), (.bool true)])), ⟨[], 29796⟩⟩
theorem DsT177 : Ent.check Tryz.prog known [] 990 DsE177 = true := by kernel_rfl
theorem DsK177 {W : World} (hW : LibW W) : DsE177.Ok Tryz.prog (KG W) := Ent.ok_of mixed (known_ok hW) Tab.ok_nil DsT177
def DsE178 : Ent := ⟨32, (.cons (.ptr 29833 0) .nil), ⟨[DsO205], 29834⟩, (.tup (avs [(.agg (avs [(nu 12), (nu 0), (.sl 29876 0 2 3 false)])), (.bool true)])), ⟨[DsO206, DsO207], 29888⟩⟩
theorem DsT178 : Ent.check Tryz.prog known [] 990 DsE178 = true := by kernel_rfl
theorem DsK178 {W : World} (hW : LibW W) : DsE178.Ok Tryz.prog (KG W) := Ent.ok_of mixed (known_ok hW) Tab.ok_nil DsT178
def DsE179 : Ent := ⟨30, (.cons (.str 1130 DsS101) (.cons (.str 1 10) .nil)), ⟨[], 29902⟩, (.tup (avs [(.str 29 DsS102), (.str 1100 DsS103), (.bool true)])), ⟨[], 29914⟩⟩
theorem DsT179 : Ent.check Tryz.prog known [] 990 DsE179 = true := by kernel_rfl
theorem DsK179 {W : World} (hW : LibW W) : DsE179.Ok Tryz.prog (KG W) := Ent.ok_of mixed (known_ok hW) Tab.ok_nil DsT179
def DsE180 : Ent := ⟨32, (.cons (.ptr 29951 0) .nil), ⟨[DsO208], 29952⟩, (.tup (avs [(.agg (avs [(nu 12), (nu 0), (.sl 29994 0 2 3 false)])), (.bool true)])), ⟨[DsO209, DsO210], 30006⟩⟩
theorem DsT180 : Ent.check Tryz.prog known [] 990 DsE180 = true := by kernel_rfl
theorem DsK180 {W : World} (hW : LibW W) : DsE180.Ok Tryz.prog (KG W) := Ent.ok_of mixed (known_ok hW) Tab.ok_nil DsT180
def DsE181 : Ent := ⟨30, (.cons (.str 1100 DsS103) (.cons (.str 1 10) .nil)), ⟨[], 30020⟩, (.tup (avs [(.str 28 DsS104), (.str 1071 DsS105), (.bool true)])), ⟨[], 30032⟩⟩
theorem DsT181 : Ent.check Tryz.prog known [] 990 DsE181 = true := by kernel_rfl
theorem DsK181 {W : World} (hW : LibW W) : DsE181.Ok Tryz.prog (KG W) := Ent.ok_of mixed (known_ok hW) Tab.ok_nil DsT181
def DsE182 : Ent := ⟨32, (.cons (.ptr 30069 0) .nil), ⟨[DsO211], 30070⟩, (.tup (avs [(.agg (avs [(nu 13), (nu 0), (.sl 30113 0 2 3 false)])), (.bool true)])), ⟨[DsO212, DsO213], 30125⟩⟩
theorem DsT182 : Ent.check Tryz.prog known [] 990 DsE182 = true := by kernel_rfl
theorem DsK182 {W : World} (hW : LibW W) : DsE182.Ok Tryz.prog (KG W) := Ent.ok_of mixed (known_ok hW) Tab.ok_nil DsT182
def DsE183 : Ent := ⟨30, (.cons (.str 1071 DsS105) (.cons (.str 1 10) .nil)), ⟨[], 30139⟩, (.tup (avs [(.str 29 DsS106), (.str 1041 DsS107), (.bool true)])), ⟨[], 30151⟩⟩
theorem DsT183 : Ent.check Tryz.prog known [] 990 DsE183 = true := by kernel_rfl
theorem DsK183 {W : World} (hW : LibW W) : DsE183.Ok Tryz.prog (KG W) := Ent.ok_of mixed (known_ok hW) Tab.ok_nil DsT183
def DsE184 : Ent := ⟨32, (.cons (.ptr 30188 0) .nil), ⟨[DsO214], 30189⟩, (.tup (avs [(.agg (avs [(nu 13), (nu 0), (.sl 30232 0 2 3 false)])), (.bool true)])), ⟨[DsO215, DsO216], 30244⟩⟩
theorem DsT184 : Ent.check Tryz.prog known [] 990 DsE184 = true := by kernel_rfl
theorem DsK184 {W : World} (hW : LibW W) : DsE184.Ok Tryz.prog (KG W) := Ent.ok_of mixed (known_ok hW) Tab.ok_nil DsT184
def DsE185 : Ent := ⟨30, (.cons (.str 1041 DsS107) (.cons (.str 1 10) .nil)), ⟨[], 30258⟩, (.tup (avs [(.str 28 DsS26), (.str 1012 DsS108), (.bool true)])), ⟨[], 30270⟩⟩
theorem DsT185 : Ent.check Tryz.prog known [] 990 DsE185 = true := by kernel_rfl
theorem DsK185 {W : World} (hW : LibW W) : DsE185.Ok Tryz.prog (KG W) := Ent.ok_of mixed (known_ok hW) Tab.ok_nil DsT185
def DsE186 : Ent := ⟨32, (.cons (.ptr 30307 0) .nil), ⟨[DsO217], 30308⟩, (.tup (avs [(.agg (avs [(nu 14), (nu 0), (.sl 30352 0 2 3 false)])), (.bool true)])), ⟨[DsO218, DsO219], 30364⟩⟩
theorem DsT186 : Ent.check Tryz.prog known [] 990 DsE186 = true := by kernel_rfl
theorem DsK186 {W : World} (hW : LibW W) : DsE186.Ok Tryz.prog (KG W) := Ent.ok_of mixed (known_ok hW) Tab.ok_nil DsT186
def DsE187 : Ent := ⟨30, (.cons (.str 1012 DsS108) (.cons (.str 1 10) .nil)), ⟨[], 30378⟩, (.tup (avs [(.str 29 DsS109), (.str 982 DsS110), (.bool true)])), ⟨[], 30390⟩⟩
theorem DsT187 : Ent.check Tryz.prog known [] 990 DsE187 = true := by kernel_rfl
theorem DsK187 {W : World} (hW : LibW W) : DsE187.Ok Tryz.prog (KG W) := Ent.ok_of mixed (known_ok hW) Tab.ok_nil DsT187
def DsE188 : Ent := ⟨32, (.cons (.ptr 30427 0) .nil), ⟨[DsO220], 30428⟩, (.tup (avs [(.agg (avs [(nu 14), (nu 0), (.sl 30472 0 2 3 false)])), (.bool true)])), ⟨[DsO221, DsO222], 30484⟩⟩
theorem DsT188 : Ent.check Tryz.prog known [] 990 DsE188 = true := by kernel_rfl
theorem DsK188 {W : World} (hW : LibW W) : DsE188.Ok Tryz.prog (KG W) := Ent.ok_of mixed (known_ok hW) Tab.ok_nil DsT188
def DsE189 : Ent := ⟨30, (.cons (.str 982 DsS110) (.cons (.str 1 10) .nil)), ⟨[], 30498⟩, (.tup (avs [(.str 29 DsS111), (.str 952 DsS112), (.bool true)])), ⟨[], 30510⟩⟩
theorem DsT189 : Ent.check Tryz.prog known [] 990 DsE189 = true := by kernel_rfl
theorem DsK189 {W : World} (hW : LibW W) : DsE189.Ok Tryz.prog (KG W) := Ent.ok_of mixed (known_ok hW) Tab.ok_nil DsT189
def DsE190 : Ent := ⟨32, (.cons (.ptr 30548 0) .nil), ⟨[DsO223], 30549⟩, (.tup (avs [(.agg (avs [(nu 15), (nu 0), (.sl 30594 0 2 3 false)])), (.bool true)])), ⟨[DsO224, DsO225], 30606⟩⟩
theorem DsT190 : Ent.check Tryz.prog known [] 990 DsE190 = true := by kernel_rfl
theorem DsK190 {W : World} (hW : LibW W) : DsE190.Ok Tryz.prog (KG W) := Ent.ok_of mixed (known_ok hW) Tab.ok_nil DsT190
def DsE191 : Ent := ⟨30, (.cons (.str 952 DsS112) (.cons (.str 1 10) .nil)), ⟨[], 30620⟩, (.tup (avs [(.str 31 DsS113), (.str 920 DsS114), (.bool true)])), ⟨[], 30632⟩⟩
theorem DsT191 : Ent.check Tryz.prog known [] 990 DsE191 = true := by kernel_rfl
theorem DsK191 {W : World} (hW : LibW W) : DsE191.Ok Tryz.prog (KG W) := Ent.ok_of mixed (known_ok hW) Tab.ok_nil DsT191
def DsE192 : Ent := ⟨32, (.cons (.ptr 30670 0) .nil), ⟨[DsO226], 30671⟩, (.tup (avs [(.agg (avs [(nu 16), (nu 0), (.sl 30717 0 2 3 false)])), (.bool true)])), ⟨[DsO227, DsO228], 30729⟩⟩
theorem DsT192 : Ent.check Tryz.prog known [] 990 DsE192 = true := by kernel_rfl
theorem DsK192 {W : World} (hW : LibW W) : DsE192.Ok Tryz.prog (KG W) := Ent.ok_of mixed (known_ok hW) Tab.ok_nil DsT192
end Go.Proofs.YtpepepkfjimoeaaGreatDoor

/- Calls that were proved one by one: what the evaluator says. -/
import Derived.Test.YtpepepkfjimoeaaGreatDoorDsO
import Derived.Test.YtpepepkfjimoeaaGreatDoorProg
import Derived.ProofKit
import Derived.Test.YtpepepkfjimoeaaGreatDoorVy
namespace Go.Proofs.YtpepepkfjimoeaaGreatDoor
open Go.Proofs.YtpepepkfjimoeaaGreatDoor.Ev
set_option maxRecDepth 100000

def DsE109 : Ent := ⟨36, (.cons (.str 2 28789) .nil), ⟨[], 11266⟩, (.tup (avs [(.agg (avs [(nu 1), (nu 0), (nu 2), .nils, (nu 0), (.str 2 28789)])), (.bool true)])), ⟨[], 11567⟩⟩
theorem DsT109 : Ent.check Tryz.prog known [] 990 DsE109 = true := by kernel_rfl
theorem DsK109 {W : World} (hW : LibW W) : DsE109.Ok Tryz.prog (KG W) := Ent.ok_of mixed (known_ok hW) Tab.ok_nil DsT109
def DsE110 : Ent := ⟨36, (.cons (.str 3 7368052) .nil), ⟨[], 11583⟩, (.tup (avs [(.agg (avs [(nu 0), (nu 2), (nu 0), .nils, (nu 0), (.str 3 7368052)])), (.bool true)])), ⟨[], 11884⟩⟩
theorem DsT110 : Ent.check Tryz.prog known [] 990 DsE110 = true := by kernel_rfl
theorem DsK110 {W : World} (hW : LibW W) : DsE110.Ok Tryz.prog (KG W) := Ent.ok_of mixed (known_ok hW) Tab.ok_nil DsT110
def DsE111 : Ent := ⟨36, (.cons (.str 3 6516588) .nil), ⟨[], 11900⟩, (.tup (avs [(.agg (avs [(nu 0), (nu 3), (nu 0), .nils, (nu 0), (.str 3 6516588)])), (.bool true)])), ⟨[], 12201⟩⟩
theorem DsT111 : Ent.check Tryz.prog known [] 990 DsE111 = true := by kernel_rfl
theorem DsK111 {W : World} (hW : LibW W) : DsE111.Ok Tryz.prog (KG W) := Ent.ok_of mixed (known_ok hW) Tab.ok_nil DsT111
def DsE112 : Ent := ⟨36, (.cons (.str 3 7302247) .nil), ⟨[], 12217⟩, (.tup (avs [(.agg (avs [(nu 0), (nu 4), (nu 0), .nils, (nu 0), (.str 3 7302247)])), (.bool true)])), ⟨[], 12518⟩⟩
theorem DsT112 : Ent.check Tryz.prog known [] 990 DsE112 = true := by kernel_rfl
theorem DsK112 {W : World} (hW : LibW W) : DsE112.Ok Tryz.prog (KG W) := Ent.ok_of mixed (known_ok hW) Tab.ok_nil DsT112
def DsE113 : Ent := ⟨36, (.cons (.str 4 1702060386) .nil), ⟨[], 12534⟩, (.tup (avs [(.agg (avs [(nu 3), (nu 0), (nu 0), .nils, (nu 0), (.str 4 1702060386)])), (.bool true)])), ⟨[], 12835⟩⟩
theorem DsT113 : Ent.check Tryz.prog known [] 990 DsE113 = true := by kernel_rfl
theorem DsK113 {W : World} (hW : LibW W) : DsE113.Ok Tryz.prog (KG W) := Ent.ok_of mixed (known_ok hW) Tab.ok_nil DsT113
def DsE114 : Ent := ⟨36, (.cons (.str 3 6710895) .nil), ⟨[], 12851⟩, (.tup (avs [(.agg (avs [(nu 3), (nu 12), (nu 0), (.sl 12862 0 2 3 true), (nu 0), (.str 3 6710895)])), (.bool true)])), ⟨[DsO136], 13152⟩⟩
theorem DsT114 : Ent.check Tryz.prog known [] 990 DsE114 = true := by kernel_rfl
theorem DsK114 {W : World} (hW : LibW W) : DsE114.Ok Tryz.prog (KG W) := Ent.ok_of mixed (known_ok hW) Tab.ok_nil DsT114
def DsE115 : Ent := ⟨36, (.cons (.str 5 242202275692) .nil), ⟨[], 13192⟩, (.tup (avs [(.agg (avs [(nu 0), (nu 5), (nu 0), (.sl 13452 0 1 3 true), (nu 0), (.str 5 242202275692)])), (.bool true)])), ⟨[DsO137], 13493⟩⟩
theorem DsT115 : Ent.check Tryz.prog known [] 990 DsE115 = true := by kernel_rfl
theorem DsK115 {W : World} (hW : LibW W) : DsE115.Ok Tryz.prog (KG W) := Ent.ok_of mixed (known_ok hW) Tab.ok_nil DsT115
def DsE116 : Ent := ⟨36, (.cons (.str 6 59585765404524) .nil), ⟨[], 13521⟩, (.tup (avs [(.agg (avs [(nu 0), (nu 6), (nu 0), (.sl 13787 0 1 3 true), (nu 0), (.str 6 59585765404524)])), (.bool true)])), ⟨[DsO138], 13822⟩⟩
theorem DsT116 : Ent.check Tryz.prog known [] 990 DsE116 = true := by kernel_rfl
theorem DsK116 {W : World} (hW : LibW W) : DsE116.Ok Tryz.prog (KG W) := Ent.ok_of mixed (known_ok hW) Tab.ok_nil DsT116
def DsE117 : Ent := ⟨36, (.cons (.str 6 55196308828012) .nil), ⟨[], 13850⟩, (.tup (avs [(.agg (avs [(nu 0), (nu 7), (nu 0), (.sl 14122 0 1 3 true), (nu 0), (.str 6 55196308828012)])), (.bool true)])), ⟨[DsO139], 14151⟩⟩
theorem DsT117 : Ent.check Tryz.prog known [] 990 DsE117 = true := by kernel_rfl
theorem DsK117 {W : World} (hW : LibW W) : DsE117.Ok Tryz.prog (KG W) := Ent.ok_of mixed (known_ok hW) Tab.ok_nil DsT117
def DsE118 : Ent := ⟨36, (.cons (.str 6 57408216985452) .nil), ⟨[], 14179⟩, (.tup (avs [(.agg (avs [(nu 0), (nu 8), (nu 0), (.sl 14457 0 1 3 true), (nu 0), (.str 6 57408216985452)])), (.bool true)])), ⟨[DsO140], 14480⟩⟩
theorem DsT118 : Ent.check Tryz.prog known [] 990 DsE118 = true := by kernel_rfl
theorem DsK118 {W : World} (hW : LibW W) : DsE118.Ok Tryz.prog (KG W) := Ent.ok_of mixed (known_ok hW) Tab.ok_nil DsT118
def DsE119 : Ent := ⟨36, (.cons (.str 6 62076846436204) .nil), ⟨[], 14508⟩, (.tup (avs [(.agg (avs [(nu 0), (nu 9), (nu 0), (.sl 14792 0 1 3 true), (nu 0), (.str 6 62076846436204)])), (.bool true)])), ⟨[DsO141], 14809⟩⟩
theorem DsT119 : Ent.check Tryz.prog known [] 990 DsE119 = true := by kernel_rfl
theorem DsK119 {W : World} (hW : LibW W) : DsE119.Ok Tryz.prog (KG W) := Ent.ok_of mixed (known_ok hW) Tab.ok_nil DsT119
def DsE120 : Ent := ⟨36, (.cons (.str 7 15254029007417196) .nil), ⟨[], 14837⟩, (.tup (avs [(.agg (avs [(nu 0), (nu 10), (nu 0), (.sl 15127 0 1 3 true), (nu 0), (.str 7 15254029007417196)])), (.bool true)])), ⟨[DsO142], 15138⟩⟩
theorem DsT120 : Ent.check Tryz.prog known [] 990 DsE120 = true := by kernel_rfl
theorem DsK120 {W : World} (hW : LibW W) : DsE120.Ok Tryz.prog (KG W) := Ent.ok_of mixed (known_ok hW) Tab.ok_nil DsT120
def DsE121 : Ent := ⟨36, (.cons (.str 7 14130328123830124) .nil), ⟨[], 15166⟩, (.tup (avs [(.agg (avs [(nu 0), (nu 11), (nu 0), (.sl 15462 0 1 3 true), (nu 0), (.str 7 14130328123830124)])), (.bool true)])), ⟨[DsO143], 15467⟩⟩
theorem DsT121 : Ent.check Tryz.prog known [] 990 DsE121 = true := by kernel_rfl
theorem DsK121 {W : World} (hW : LibW W) : DsE121.Ok Tryz.prog (KG W) := Ent.ok_of mixed (known_ok hW) Tab.ok_nil DsT121
def DsE122 : Ent := ⟨36, (.cons (.str 3 6579297) .nil), ⟨[], 15495⟩, (.tup (avs [(.agg (avs [(nu 0), (nu 12), (nu 0), (.sl 15512 0 2 3 true), (nu 0), (.str 3 6579297)])), (.bool true)])), ⟨[DsO144], 15796⟩⟩
theorem DsT122 : Ent.check Tryz.prog known [] 990 DsE122 = true := by kernel_rfl
theorem DsK122 {W : World} (hW : LibW W) : DsE122.Ok Tryz.prog (KG W) := Ent.ok_of mixed (known_ok hW) Tab.ok_nil DsT122
def DsE123 : Ent := ⟨36, (.cons (.str 4 1768186977) .nil), ⟨[], 15836⟩, (.tup (avs [(.agg (avs [(nu 0), (nu 12), (nu 0), (.sl 15857 0 2 3 true), (nu 0), (.str 4 1768186977)])), (.bool true)])), ⟨[DsO145], 16137⟩⟩
theorem DsT123 : Ent.check Tryz.prog known [] 990 DsE123 = true := by kernel_rfl
theorem DsK123 {W : World} (hW : LibW W) : DsE123.Ok Tryz.prog (KG W) := Ent.ok_of mixed (known_ok hW) Tab.ok_nil DsT123
def DsE124 : Ent := ⟨36, (.cons (.str 3 6452595) .nil), ⟨[], 16177⟩, (.tup (avs [(.agg (avs [(nu 0), (nu 13), (nu 0), (.sl 16205 0 2 3 true), (nu 0), (.str 3 6452595)])), (.bool true)])), ⟨[DsO146], 16478⟩⟩
theorem DsT124 : Ent.check Tryz.prog known [] 990 DsE124 = true := by kernel_rfl
theorem DsK124 {W : World} (hW : LibW W) : DsE124.Ok Tryz.prog (KG W) := Ent.ok_of mixed (known_ok hW) Tab.ok_nil DsT124
def DsE125 : Ent := ⟨36, (.cons (.str 4 1768060275) .nil), ⟨[], 16518⟩, (.tup (avs [(.agg (avs [(nu 0), (nu 13), (nu 0), (.sl 16550 0 2 3 true), (nu 0), (.str 4 1768060275)])), (.bool true)])), ⟨[DsO147], 16819⟩⟩
theorem DsT125 : Ent.check Tryz.prog known [] 990 DsE125 = true := by kernel_rfl
theorem DsK125 {W : World} (hW : LibW W) : DsE125.Ok Tryz.prog (KG W) := Ent.ok_of mixed (known_ok hW) Tab.ok_nil DsT125
def DsE126 : Ent := ⟨36, (.cons (.str 3 7107949) .nil), ⟨[], 16859⟩, (.tup (avs [(.agg (avs [(nu 0), (nu 14), (nu 0), (.sl 16898 0 2 3 true), (nu 0), (.str 3 7107949)])), (.bool true)])), ⟨[DsO148], 17160⟩⟩
theorem DsT126 : Ent.check Tryz.prog known [] 990 DsE126 = true := by kernel_rfl
theorem DsK126 {W : World} (hW : LibW W) : DsE126.Ok Tryz.prog (KG W) := Ent.ok_of mixed (known_ok hW) Tab.ok_nil DsT126
def DsE127 : Ent := ⟨36, (.cons (.str 3 7760228) .nil), ⟨[], 17200⟩, (.tup (avs [(.agg (avs [(nu 0), (nu 15), (nu 0), (.sl 17250 0 2 3 true), (nu 0), (.str 3 7760228)])), (.bool true)])), ⟨[DsO149], 17501⟩⟩
theorem DsT127 : Ent.check Tryz.prog known [] 990 DsE127 = true := by kernel_rfl
theorem DsK127 {W : World} (hW : LibW W) : DsE127.Ok Tryz.prog (KG W) := Ent.ok_of mixed (known_ok hW) Tab.ok_nil DsT127
def DsE128 : Ent := ⟨36, (.cons (.str 4 1970694500) .nil), ⟨[], 17541⟩, (.tup (avs [(.agg (avs [(nu 0), (nu 16), (nu 0), (.sl 17602 0 2 3 true), (nu 0), (.str 4 1970694500)])), (.bool true)])), ⟨[DsO150], 17842⟩⟩
theorem DsT128 : Ent.check Tryz.prog known [] 990 DsE128 = true := by kernel_rfl
theorem DsK128 {W : World} (hW : LibW W) : DsE128.Ok Tryz.prog (KG W) := Ent.ok_of mixed (known_ok hW) Tab.ok_nil DsT128
def DsE129 : Ent := ⟨36, (.cons (.str 3 7169394) .nil), ⟨[], 17882⟩, (.tup (avs [(.agg (avs [(nu 0), (nu 17), (nu 0), (.sl 17954 0 2 3 true), (nu 0), (.str 3 7169394)])), (.bool true)])), ⟨[DsO151], 18183⟩⟩
theorem DsT129 : Ent.check Tryz.prog known [] 990 DsE129 = true := by kernel_rfl
theorem DsK129 {W : World} (hW : LibW W) : DsE129.Ok Tryz.prog (KG W) := Ent.ok_of mixed (known_ok hW) Tab.ok_nil DsT129
def DsE130 : Ent := ⟨36, (.cons (.str 4 1970103666) .nil), ⟨[], 18223⟩, (.tup (avs [(.agg (avs [(nu 0), (nu 18), (nu 0), (.sl 18306 0 2 3 true), (nu 0), (.str 4 1970103666)])), (.bool true)])), ⟨[DsO152], 18524⟩⟩
theorem DsT130 : Ent.check Tryz.prog known [] 990 DsE130 = true := by kernel_rfl
theorem DsK130 {W : World} (hW : LibW W) : DsE130.Ok Tryz.prog (KG W) := Ent.ok_of mixed (known_ok hW) Tab.ok_nil DsT130
def DsE131 : Ent := ⟨36, (.cons (.str 3 6581857) .nil), ⟨[], 18564⟩, (.tup (avs [(.agg (avs [(nu 0), (nu 19), (nu 0), (.sl 18658 0 2 3 true), (nu 0), (.str 3 6581857)])), (.bool true)])), ⟨[DsO153], 18865⟩⟩
theorem DsT131 : Ent.check Tryz.prog known [] 990 DsE131 = true := by kernel_rfl
theorem DsK131 {W : World} (hW : LibW W) : DsE131.Ok Tryz.prog (KG W) := Ent.ok_of mixed (known_ok hW) Tab.ok_nil DsT131
def DsE132 : Ent := ⟨36, (.cons (.str 4 1768189537) .nil), ⟨[], 18905⟩, (.tup (avs [(.agg (avs [(nu 0), (nu 19), (nu 0), (.sl 19003 0 2 3 true), (nu 0), (.str 4 1768189537)])), (.bool true)])), ⟨[DsO154], 19206⟩⟩
theorem DsT132 : Ent.check Tryz.prog known [] 990 DsE132 = true := by kernel_rfl
theorem DsK132 {W : World} (hW : LibW W) : DsE132.Ok Tryz.prog (KG W) := Ent.ok_of mixed (known_ok hW) Tab.ok_nil DsT132
def DsE133 : Ent := ⟨36, (.cons (.str 2 29295) .nil), ⟨[], 19246⟩, (.tup (avs [(.agg (avs [(nu 0), (nu 20), (nu 0), (.sl 19351 0 2 3 true), (nu 0), (.str 2 29295)])), (.bool true)])), ⟨[DsO155], 19547⟩⟩
theorem DsT133 : Ent.check Tryz.prog known [] 990 DsE133 = true := by kernel_rfl
theorem DsK133 {W : World} (hW : LibW W) : DsE133.Ok Tryz.prog (KG W) := Ent.ok_of mixed (known_ok hW) Tab.ok_nil DsT133
def DsE134 : Ent := ⟨36, (.cons (.str 3 6910575) .nil), ⟨[], 19587⟩, (.tup (avs [(.agg (avs [(nu 0), (nu 20), (nu 0), (.sl 19696 0 2 3 true), (nu 0), (.str 3 6910575)])), (.bool true)])), ⟨[DsO156], 19888⟩⟩
theorem DsT134 : Ent.check Tryz.prog known [] 990 DsE134 = true := by kernel_rfl
theorem DsK134 {W : World} (hW : LibW W) : DsE134.Ok Tryz.prog (KG W) := Ent.ok_of mixed (known_ok hW) Tab.ok_nil DsT134
def DsE135 : Ent := ⟨36, (.cons (.str 3 7499640) .nil), ⟨[], 19928⟩, (.tup (avs [(.agg (avs [(nu 0), (nu 21), (nu 0), (.sl 20044 0 2 3 true), (nu 0), (.str 3 7499640)])), (.bool true)])), ⟨[DsO157], 20229⟩⟩
theorem DsT135 : Ent.check Tryz.prog known [] 990 DsE135 = true := by kernel_rfl
theorem DsK135 {W : World} (hW : LibW W) : DsE135.Ok Tryz.prog (KG W) := Ent.ok_of mixed (known_ok hW) Tab.ok_nil DsT135
def DsE136 : Ent := ⟨36, (.cons (.str 4 1769107320) .nil), ⟨[], 20269⟩, (.tup (avs [(.agg (avs [(nu 0), (nu 21), (nu 0), (.sl 20389 0 2 3 true), (nu 0), (.str 4 1769107320)])), (.bool true)])), ⟨[DsO158], 20570⟩⟩
theorem DsT136 : Ent.check Tryz.prog known [] 990 DsE136 = true := by kernel_rfl
theorem DsK136 {W : World} (hW : LibW W) : DsE136.Ok Tryz.prog (KG W) := Ent.ok_of mixed (known_ok hW) Tab.ok_nil DsT136
end Go.Proofs.YtpepepkfjimoeaaGreatDoor

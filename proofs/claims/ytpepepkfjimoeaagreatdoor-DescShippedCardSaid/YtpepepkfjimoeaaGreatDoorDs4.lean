/- Calls that were proved one by one: what the evaluator says. -/
import Derived.Test.YtpepepkfjimoeaaGreatDoorDsO
import Derived.Test.YtpepepkfjimoeaaGreatDoorProg
import Derived.ProofKit
import Derived.Test.YtpepepkfjimoeaaGreatDoorVy
import Derived.Test.YtpepepkfjimoeaaGreatDoorDs2
import Derived.Test.YtpepepkfjimoeaaGreatDoorDs3
namespace Go.Proofs.YtpepepkfjimoeaaGreatDoor
open Go.Proofs.YtpepepkfjimoeaaGreatDoor.Ev
set_option maxRecDepth 100000

def DsE137 : Ent := ⟨36, (.cons (.str 3 7104627) .nil), ⟨[], 20610⟩, (.tup (avs [(.agg (avs [(nu 0), (nu 22), (nu 0), (.sl 20737 0 2 3 true), (nu 0), (.str 3 7104627)])), (.bool true)])), ⟨[DsO159], 20911⟩⟩
theorem DsT137 : Ent.check Tryz.prog known [] 990 DsE137 = true := by kernel_rfl
theorem DsK137 {W : World} (hW : LibW W) : DsE137.Ok Tryz.prog (KG W) := Ent.ok_of mixed (known_ok hW) Tab.ok_nil DsT137
def DsE138 : Ent := ⟨36, (.cons (.str 4 1768712307) .nil), ⟨[], 20951⟩, (.tup (avs [(.agg (avs [(nu 0), (nu 22), (nu 0), (.sl 21082 0 2 3 true), (nu 0), (.str 4 1768712307)])), (.bool true)])), ⟨[DsO160], 21252⟩⟩
theorem DsT138 : Ent.check Tryz.prog known [] 990 DsE138 = true := by kernel_rfl
theorem DsK138 {W : World} (hW : LibW W) : DsE138.Ok Tryz.prog (KG W) := Ent.ok_of mixed (known_ok hW) Tab.ok_nil DsT138
def DsE139 : Ent := ⟨36, (.cons (.str 3 7497843) .nil), ⟨[], 21292⟩, (.tup (avs [(.agg (avs [(nu 0), (nu 23), (nu 0), (.sl 21430 0 2 3 true), (nu 0), (.str 3 7497843)])), (.bool true)])), ⟨[DsO161], 21593⟩⟩
theorem DsT139 : Ent.check Tryz.prog known [] 990 DsE139 = true := by kernel_rfl
theorem DsK139 {W : World} (hW : LibW W) : DsE139.Ok Tryz.prog (KG W) := Ent.ok_of mixed (known_ok hW) Tab.ok_nil DsT139
def DsE140 : Ent := ⟨36, (.cons (.str 4 1769105523) .nil), ⟨[], 21633⟩, (.tup (avs [(.agg (avs [(nu 0), (nu 23), (nu 0), (.sl 21775 0 2 3 true), (nu 0), (.str 4 1769105523)])), (.bool true)])), ⟨[DsO162], 21934⟩⟩
theorem DsT140 : Ent.check Tryz.prog known [] 990 DsE140 = true := by kernel_rfl
theorem DsK140 {W : World} (hW : LibW W) : DsE140.Ok Tryz.prog (KG W) := Ent.ok_of mixed (known_ok hW) Tab.ok_nil DsT140
def DsE141 : Ent := ⟨36, (.cons (.str 3 7496051) .nil), ⟨[], 21974⟩, (.tup (avs [(.agg (avs [(nu 0), (nu 24), (nu 0), (.sl 22123 0 2 3 true), (nu 0), (.str 3 7496051)])), (.bool true)])), ⟨[DsO163], 22275⟩⟩
theorem DsT141 : Ent.check Tryz.prog known [] 990 DsE141 = true := by kernel_rfl
theorem DsK141 {W : World} (hW : LibW W) : DsE141.Ok Tryz.prog (KG W) := Ent.ok_of mixed (known_ok hW) Tab.ok_nil DsT141
def DsE142 : Ent := ⟨36, (.cons (.str 4 1769103731) .nil), ⟨[], 22315⟩, (.tup (avs [(.agg (avs [(nu 0), (nu 24), (nu 0), (.sl 22468 0 2 3 true), (nu 0), (.str 4 1769103731)])), (.bool true)])), ⟨[DsO164], 22616⟩⟩
theorem DsT142 : Ent.check Tryz.prog known [] 990 DsE142 = true := by kernel_rfl
theorem DsK142 {W : World} (hW : LibW W) : DsE142.Ok Tryz.prog (KG W) := Ent.ok_of mixed (known_ok hW) Tab.ok_nil DsT142
def DsE143 : Ent := ⟨36, (.cons (.str 2 29029) .nil), ⟨[], 22656⟩, (.tup (avs [(.agg (avs [(nu 0), (nu 25), (nu 0), (.sl 22816 0 2 3 true), (nu 0), (.str 2 29029)])), (.bool true)])), ⟨[DsO165], 22957⟩⟩
theorem DsT143 : Ent.check Tryz.prog known [] 990 DsE143 = true := by kernel_rfl
theorem DsK143 {W : World} (hW : LibW W) : DsE143.Ok Tryz.prog (KG W) := Ent.ok_of mixed (known_ok hW) Tab.ok_nil DsT143
def DsE144 : Ent := ⟨36, (.cons (.str 3 6910309) .nil), ⟨[], 22997⟩, (.tup (avs [(.agg (avs [(nu 0), (nu 25), (nu 0), (.sl 23161 0 2 3 true), (nu 0), (.str 3 6910309)])), (.bool true)])), ⟨[DsO166], 23298⟩⟩
theorem DsT144 : Ent.check Tryz.prog known [] 990 DsE144 = true := by kernel_rfl
theorem DsK144 {W : World} (hW : LibW W) : DsE144.Ok Tryz.prog (KG W) := Ent.ok_of mixed (known_ok hW) Tab.ok_nil DsT144
def DsE145 : Ent := ⟨36, (.cons (.str 2 25966) .nil), ⟨[], 23338⟩, (.tup (avs [(.agg (avs [(nu 0), (nu 26), (nu 0), (.sl 23509 0 2 3 true), (nu 0), (.str 2 25966)])), (.bool true)])), ⟨[DsO167], 23639⟩⟩
theorem DsT145 : Ent.check Tryz.prog known [] 990 DsE145 = true := by kernel_rfl
theorem DsK145 {W : World} (hW : LibW W) : DsE145.Ok Tryz.prog (KG W) := Ent.ok_of mixed (known_ok hW) Tab.ok_nil DsT145
def DsE146 : Ent := ⟨36, (.cons (.str 3 6907246) .nil), ⟨[], 23679⟩, (.tup (avs [(.agg (avs [(nu 0), (nu 26), (nu 0), (.sl 23854 0 2 3 true), (nu 0), (.str 3 6907246)])), (.bool true)])), ⟨[DsO168], 23980⟩⟩
theorem DsT146 : Ent.check Tryz.prog known [] 990 DsE146 = true := by kernel_rfl
theorem DsK146 {W : World} (hW : LibW W) : DsE146.Ok Tryz.prog (KG W) := Ent.ok_of mixed (known_ok hW) Tab.ok_nil DsT146
def DsE147 : Ent := ⟨36, (.cons (.str 2 29804) .nil), ⟨[], 24020⟩, (.tup (avs [(.agg (avs [(nu 0), (nu 27), (nu 0), (.sl 24202 0 2 3 true), (nu 0), (.str 2 29804)])), (.bool true)])), ⟨[DsO169], 24321⟩⟩
theorem DsT147 : Ent.check Tryz.prog known [] 990 DsE147 = true := by kernel_rfl
theorem DsK147 {W : World} (hW : LibW W) : DsE147.Ok Tryz.prog (KG W) := Ent.ok_of mixed (known_ok hW) Tab.ok_nil DsT147
def DsE148 : Ent := ⟨36, (.cons (.str 3 6911084) .nil), ⟨[], 24361⟩, (.tup (avs [(.agg (avs [(nu 0), (nu 27), (nu 0), (.sl 24547 0 2 3 true), (nu 0), (.str 3 6911084)])), (.bool true)])), ⟨[DsO170], 24662⟩⟩
theorem DsT148 : Ent.check Tryz.prog known [] 990 DsE148 = true := by kernel_rfl
theorem DsK148 {W : World} (hW : LibW W) : DsE148.Ok Tryz.prog (KG W) := Ent.ok_of mixed (known_ok hW) Tab.ok_nil DsT148
def DsE149 : Ent := ⟨36, (.cons (.str 3 7697516) .nil), ⟨[], 24702⟩, (.tup (avs [(.agg (avs [(nu 0), (nu 28), (nu 0), (.sl 24895 0 2 3 true), (nu 0), (.str 3 7697516)])), (.bool true)])), ⟨[DsO171], 25003⟩⟩
theorem DsT149 : Ent.check Tryz.prog known [] 990 DsE149 = true := by kernel_rfl
theorem DsK149 {W : World} (hW : LibW W) : DsE149.Ok Tryz.prog (KG W) := Ent.ok_of mixed (known_ok hW) Tab.ok_nil DsT149
def DsE150 : Ent := ⟨36, (.cons (.str 4 1769305196) .nil), ⟨[], 25043⟩, (.tup (avs [(.agg (avs [(nu 0), (nu 28), (nu 0), (.sl 25240 0 2 3 true), (nu 0), (.str 4 1769305196)])), (.bool true)])), ⟨[DsO172], 25344⟩⟩
theorem DsT150 : Ent.check Tryz.prog known [] 990 DsE150 = true := by kernel_rfl
theorem DsK150 {W : World} (hW : LibW W) : DsE150.Ok Tryz.prog (KG W) := Ent.ok_of mixed (known_ok hW) Tab.ok_nil DsT150
def DsE151 : Ent := ⟨36, (.cons (.str 2 25964) .nil), ⟨[], 25384⟩, (.tup (avs [(.agg (avs [(nu 0), (nu 29), (nu 0), (.sl 25588 0 2 3 true), (nu 0), (.str 2 25964)])), (.bool true)])), ⟨[DsO173], 25685⟩⟩
theorem DsT151 : Ent.check Tryz.prog known [] 990 DsE151 = true := by kernel_rfl
theorem DsK151 {W : World} (hW : LibW W) : DsE151.Ok Tryz.prog (KG W) := Ent.ok_of mixed (known_ok hW) Tab.ok_nil DsT151
def DsE152 : Ent := ⟨36, (.cons (.str 3 7693676) .nil), ⟨[], 25725⟩, (.tup (avs [(.agg (avs [(nu 0), (nu 30), (nu 0), (.sl 25940 0 2 3 true), (nu 0), (.str 3 7693676)])), (.bool true)])), ⟨[DsO174], 26026⟩⟩
theorem DsT152 : Ent.check Tryz.prog known [] 990 DsE152 = true := by kernel_rfl
theorem DsK152 {W : World} (hW : LibW W) : DsE152.Ok Tryz.prog (KG W) := Ent.ok_of mixed (known_ok hW) Tab.ok_nil DsT152
def DsE153 : Ent := ⟨36, (.cons (.str 4 947157093) .nil), ⟨[], 26066⟩, (.tup (avs [(.agg (avs [(nu 0), (nu 31), (nu 0), (.sl 26290 0 1 3 true), (nu 0), (.str 4 947157093)])), (.bool true)])), ⟨[DsO175], 26367⟩⟩
theorem DsT153 : Ent.check Tryz.prog known [] 990 DsE153 = true := by kernel_rfl
theorem DsK153 {W : World} (hW : LibW W) : DsE153.Ok Tryz.prog (KG W) := Ent.ok_of mixed (known_ok hW) Tab.ok_nil DsT153
def DsE154 : Ent := ⟨36, (.cons (.str 5 232757950565) .nil), ⟨[], 26395⟩, (.tup (avs [(.agg (avs [(nu 0), (nu 32), (nu 0), (.sl 26625 0 1 3 true), (nu 0), (.str 5 232757950565)])), (.bool true)])), ⟨[DsO176], 26696⟩⟩
theorem DsT154 : Ent.check Tryz.prog known [] 990 DsE154 = true := by kernel_rfl
theorem DsK154 {W : World} (hW : LibW W) : DsE154.Ok Tryz.prog (KG W) := Ent.ok_of mixed (known_ok hW) Tab.ok_nil DsT154
def DsE155 : Ent := ⟨36, (.cons (.str 5 215611635813) .nil), ⟨[], 26724⟩, (.tup (avs [(.agg (avs [(nu 0), (nu 33), (nu 0), (.sl 26960 0 1 3 true), (nu 0), (.str 5 215611635813)])), (.bool true)])), ⟨[DsO177], 27025⟩⟩
theorem DsT155 : Ent.check Tryz.prog known [] 990 DsE155 = true := by kernel_rfl
theorem DsK155 {W : World} (hW : LibW W) : DsE155.Ok Tryz.prog (KG W) := Ent.ok_of mixed (known_ok hW) Tab.ok_nil DsT155
def DsE156 : Ent := ⟨36, (.cons (.str 5 242472215930) .nil), ⟨[], 27053⟩, (.tup (avs [(.agg (avs [(nu 0), (nu 34), (nu 0), (.sl 27295 0 1 3 true), (nu 0), (.str 5 242472215930)])), (.bool true)])), ⟨[DsO178], 27354⟩⟩
theorem DsT156 : Ent.check Tryz.prog known [] 990 DsE156 = true := by kernel_rfl
theorem DsK156 {W : World} (hW : LibW W) : DsE156.Ok Tryz.prog (KG W) := Ent.ok_of mixed (known_ok hW) Tab.ok_nil DsT156
def DsE157 : Ent := ⟨36, (.cons (.str 6 59586035344762) .nil), ⟨[], 27382⟩, (.tup (avs [(.agg (avs [(nu 0), (nu 35), (nu 0), (.sl 27630 0 1 3 true), (nu 0), (.str 6 59586035344762)])), (.bool true)])), ⟨[DsO179], 27683⟩⟩
theorem DsT157 : Ent.check Tryz.prog known [] 990 DsE157 = true := by kernel_rfl
theorem DsK157 {W : World} (hW : LibW W) : DsE157.Ok Tryz.prog (KG W) := Ent.ok_of mixed (known_ok hW) Tab.ok_nil DsT157
def DsE158 : Ent := ⟨36, (.cons (.str 6 55196578768250) .nil), ⟨[], 27711⟩, (.tup (avs [(.agg (avs [(nu 0), (nu 36), (nu 0), (.sl 27965 0 1 3 true), (nu 0), (.str 6 55196578768250)])), (.bool true)])), ⟨[DsO180], 28012⟩⟩
theorem DsT158 : Ent.check Tryz.prog known [] 990 DsE158 = true := by kernel_rfl
theorem DsK158 {W : World} (hW : LibW W) : DsE158.Ok Tryz.prog (KG W) := Ent.ok_of mixed (known_ok hW) Tab.ok_nil DsT158
def DsE159 : Ent := ⟨12, (.cons (.sl 6149 0 53 6 false) .nil), ⟨[DsO2, DsO5, DsO8, DsO11, DsO14, DsO17, DsO20, DsO23, DsO26, DsO29, DsO32, DsO35, DsO38, DsO41, DsO44, DsO47, DsO50, DsO53, DsO56, DsO59, DsO62, DsO65, DsO68, DsO71, DsO74, DsO77, DsO80, DsO83, DsO86, DsO89, DsO92, DsO95, DsO98, DsO101, DsO104, DsO107, DsO110, DsO113, DsO116, DsO119, DsO122, DsO125, DsO128, DsO131, DsO134, DsO135], 9585⟩, (nu 0), ⟨[DsO2, DsO5, DsO8, DsO11, DsO14, DsO17, DsO20, DsO23, DsO26, DsO29, DsO32, DsO35, DsO38, DsO41, DsO44, DsO47, DsO50, DsO53, DsO56, DsO59, DsO62, DsO65, DsO68, DsO71, DsO74, DsO77, DsO80, DsO83, DsO86, DsO89, DsO92, DsO95, DsO98, DsO101, DsO104, DsO107, DsO110, DsO113, DsO116, DsO119, DsO122, DsO125, DsO128, DsO131, DsO134, DsO135], 28040⟩⟩
theorem DsT159 : Ent.check Tryz.prog known [(34, [DsE105]), (36, [DsE106, DsE107, DsE108, DsE109, DsE110, DsE111, DsE112, DsE113, DsE114, DsE115, DsE116, DsE117, DsE118, DsE119, DsE120, DsE121, DsE122, DsE123, DsE124, DsE125, DsE126, DsE127, DsE128, DsE129, DsE130, DsE131, DsE132, DsE133, DsE134, DsE135, DsE136, DsE137, DsE138, DsE139, DsE140, DsE141, DsE142, DsE143, DsE144, DsE145, DsE146, DsE147, DsE148, DsE149, DsE150, DsE151, DsE152, DsE153, DsE154, DsE155, DsE156, DsE157, DsE158])] 990 DsE159 = true := by kernel_rfl
theorem DsK159 {W : World} (hW : LibW W) : DsE159.Ok Tryz.prog (KG W) := Ent.ok_of mixed (known_ok hW) (Tab.ok_cons (f := 34) (Ent.ok_cons (DsK105 hW) Ent.ok_nil) (Tab.ok_cons (f := 36) (Ent.ok_cons (DsK106 hW) (Ent.ok_cons (DsK107 hW) (Ent.ok_cons (DsK108 hW) (Ent.ok_cons (DsK109 hW) (Ent.ok_cons (DsK110 hW) (Ent.ok_cons (DsK111 hW) (Ent.ok_cons (DsK112 hW) (Ent.ok_cons (DsK113 hW) (Ent.ok_cons (DsK114 hW) (Ent.ok_cons (DsK115 hW) (Ent.ok_cons (DsK116 hW) (Ent.ok_cons (DsK117 hW) (Ent.ok_cons (DsK118 hW) (Ent.ok_cons (DsK119 hW) (Ent.ok_cons (DsK120 hW) (Ent.ok_cons (DsK121 hW) (Ent.ok_cons (DsK122 hW) (Ent.ok_cons (DsK123 hW) (Ent.ok_cons (DsK124 hW) (Ent.ok_cons (DsK125 hW) (Ent.ok_cons (DsK126 hW) (Ent.ok_cons (DsK127 hW) (Ent.ok_cons (DsK128 hW) (Ent.ok_cons (DsK129 hW) (Ent.ok_cons (DsK130 hW) (Ent.ok_cons (DsK131 hW) (Ent.ok_cons (DsK132 hW) (Ent.ok_cons (DsK133 hW) (Ent.ok_cons (DsK134 hW) (Ent.ok_cons (DsK135 hW) (Ent.ok_cons (DsK136 hW) (Ent.ok_cons (DsK137 hW) (Ent.ok_cons (DsK138 hW) (Ent.ok_cons (DsK139 hW) (Ent.ok_cons (DsK140 hW) (Ent.ok_cons (DsK141 hW) (Ent.ok_cons (DsK142 hW) (Ent.ok_cons (DsK143 hW) (Ent.ok_cons (DsK144 hW) (Ent.ok_cons (DsK145 hW) (Ent.ok_cons (DsK146 hW) (Ent.ok_cons (DsK147 hW) (Ent.ok_cons (DsK148 hW) (Ent.ok_cons (DsK149 hW) (Ent.ok_cons (DsK150 hW) (Ent.ok_cons (DsK151 hW) (Ent.ok_cons (DsK152 hW) (Ent.ok_cons (DsK153 hW) (Ent.ok_cons (DsK154 hW) (Ent.ok_cons (DsK155 hW) (Ent.ok_cons (DsK156 hW) (Ent.ok_cons (DsK157 hW) (Ent.ok_cons (DsK158 hW) Ent.ok_nil))))))))))))))))))))))))))))))))))))))))))))))))))))) Tab.ok_nil)) DsT159
end Go.Proofs.YtpepepkfjimoeaaGreatDoor

/- Calls that were proved one by one: what the evaluator says. -/
import Derived.Test.YtfmlgiafkbakcaaGreatDoorDfO
import Derived.Test.YtfmlgiafkbakcaaGreatDoorProg
import Derived.ProofKit
import Derived.Test.YtfmlgiafkbakcaaGreatDoorVy
namespace Go.Proofs.YtfmlgiafkbakcaaGreatDoor
open Go.Proofs.YtfmlgiafkbakcaaGreatDoor.Ev
set_option maxRecDepth 100000

def DfE130 : Ent := ⟨93, DfQ0a, ⟨[], 38000⟩, DfQ0v 38000, ⟨DfQ0o 38000, 38328⟩⟩
theorem DfT130 : Ent.check Tryz.prog known [] 990 DfE130 = true := by kernel_rfl
theorem DfK130 {W : World} (hW : LibW W) : DfE130.Ok Tryz.prog (KG W) := Ent.ok_of mixed (known_ok hW) Tab.ok_nil DfT130
def DfE131 : Ent := ⟨93, DfQ0a, ⟨[], 38338⟩, DfQ0v 38338, ⟨DfQ0o 38338, 38666⟩⟩
theorem DfT131 : Ent.check Tryz.prog known [] 990 DfE131 = true := by kernel_rfl
theorem DfK131 {W : World} (hW : LibW W) : DfE131.Ok Tryz.prog (KG W) := Ent.ok_of mixed (known_ok hW) Tab.ok_nil DfT131
def DfE132 : Ent := ⟨93, DfQ0a, ⟨[], 38677⟩, DfQ0v 38677, ⟨DfQ0o 38677, 39005⟩⟩
theorem DfT132 : Ent.check Tryz.prog known [] 990 DfE132 = true := by kernel_rfl
theorem DfK132 {W : World} (hW : LibW W) : DfE132.Ok Tryz.prog (KG W) := Ent.ok_of mixed (known_ok hW) Tab.ok_nil DfT132
def DfE133 : Ent := ⟨93, DfQ0a, ⟨[], 39017⟩, DfQ0v 39017, ⟨DfQ0o 39017, 39345⟩⟩
theorem DfT133 : Ent.check Tryz.prog known [] 990 DfE133 = true := by kernel_rfl
theorem DfK133 {W : World} (hW : LibW W) : DfE133.Ok Tryz.prog (KG W) := Ent.ok_of mixed (known_ok hW) Tab.ok_nil DfT133
def DfE134 : Ent := ⟨93, DfQ0a, ⟨[], 39358⟩, DfQ0v 39358, ⟨DfQ0o 39358, 39686⟩⟩
theorem DfT134 : Ent.check Tryz.prog known [] 990 DfE134 = true := by kernel_rfl
theorem DfK134 {W : World} (hW : LibW W) : DfE134.Ok Tryz.prog (KG W) := Ent.ok_of mixed (known_ok hW) Tab.ok_nil DfT134
def DfE135 : Ent := ⟨93, DfQ0a, ⟨[], 39700⟩, DfQ0v 39700, ⟨DfQ0o 39700, 40028⟩⟩
theorem DfT135 : Ent.check Tryz.prog known [] 990 DfE135 = true := by kernel_rfl
theorem DfK135 {W : World} (hW : LibW W) : DfE135.Ok Tryz.prog (KG W) := Ent.ok_of mixed (known_ok hW) Tab.ok_nil DfT135
def DfE136 : Ent := ⟨93, DfQ0a, ⟨[], 40051⟩, DfQ0v 40051, ⟨DfQ0o 40051, 40379⟩⟩
theorem DfT136 : Ent.check Tryz.prog known [] 990 DfE136 = true := by kernel_rfl
theorem DfK136 {W : World} (hW : LibW W) : DfE136.Ok Tryz.prog (KG W) := Ent.ok_of mixed (known_ok hW) Tab.ok_nil DfT136
def DfE137 : Ent := ⟨93, DfQ0a, ⟨[], 40443⟩, DfQ0v 40443, ⟨DfQ0o 40443, 40771⟩⟩
theorem DfT137 : Ent.check Tryz.prog known [] 990 DfE137 = true := by kernel_rfl
theorem DfK137 {W : World} (hW : LibW W) : DfE137.Ok Tryz.prog (KG W) := Ent.ok_of mixed (known_ok hW) Tab.ok_nil DfT137
def DfE138 : Ent := ⟨93, DfQ0a, ⟨[], 40836⟩, DfQ0v 40836, ⟨DfQ0o 40836, 41164⟩⟩
theorem DfT138 : Ent.check Tryz.prog known [] 990 DfE138 = true := by kernel_rfl
theorem DfK138 {W : World} (hW : LibW W) : DfE138.Ok Tryz.prog (KG W) := Ent.ok_of mixed (known_ok hW) Tab.ok_nil DfT138
def DfE139 : Ent := ⟨176, (.cons (.sl 41163 0 60 6 false) (.cons (.fn 177 .nil (.cons (.ptr 40834 0) .nil)) .nil)), ⟨[DfO419, DfO420, DfO421, DfO422, DfO423, DfO424, DfO425, DfO426, DfO427, DfO428, DfO429, DfO430, DfO431, DfO432, DfO433, DfO434, DfO435, DfO436, DfO437, DfO438, DfO439, DfO440, DfO441, DfO442, DfO443, DfO444, DfO445, DfO446, DfO447, DfO448, DfO449, DfO450, DfO451, DfO452, DfO453, DfO454, DfO455, DfO456, DfO457, DfO458, DfO459, DfO460, DfO461, DfO462, DfO463, DfO464, DfO465, DfO466, DfO467, DfO468, DfO469, DfO470, DfO471, DfO472], 41164⟩, (nu 55), ⟨[DfO419, DfO420, DfO421, DfO422, DfO423, DfO424, DfO425, DfO426, DfO427, DfO428, DfO429, DfO430, DfO431, DfO432, DfO433, DfO434, DfO435, DfO436, DfO437, DfO438, DfO439, DfO440, DfO441, DfO442, DfO443, DfO444, DfO445, DfO446, DfO447, DfO448, DfO449, DfO450, DfO451, DfO452, DfO453, DfO454, DfO455, DfO456, DfO457, DfO458, DfO459, DfO460, DfO461, DfO462, DfO463, DfO464, DfO465, DfO466, DfO467, DfO468, DfO469, DfO470, DfO471, DfO472], 41220⟩⟩
theorem DfT139 : Ent.check Tryz.prog known [] 990 DfE139 = true := by kernel_rfl
theorem DfK139 {W : World} (hW : LibW W) : DfE139.Ok Tryz.prog (KG W) := Ent.ok_of mixed (known_ok hW) Tab.ok_nil DfT139
def DfE140 : Ent := ⟨93, DfQ0a, ⟨[], 41230⟩, DfQ0v 41230, ⟨DfQ0o 41230, 41558⟩⟩
theorem DfT140 : Ent.check Tryz.prog known [] 990 DfE140 = true := by kernel_rfl
theorem DfK140 {W : World} (hW : LibW W) : DfE140.Ok Tryz.prog (KG W) := Ent.ok_of mixed (known_ok hW) Tab.ok_nil DfT140
def DfE141 : Ent := ⟨176, (.cons (.sl 41557 0 60 6 false) (.cons (.fn 177 .nil (.cons (.ptr 41228 0) .nil)) .nil)), ⟨[DfO473, DfO474, DfO475, DfO476, DfO477, DfO478, DfO479, DfO480, DfO481, DfO482, DfO483, DfO484, DfO485, DfO486, DfO487, DfO488, DfO489, DfO490, DfO491, DfO492, DfO493, DfO494, DfO495, DfO496, DfO497, DfO498, DfO499, DfO500, DfO501, DfO502, DfO503, DfO504, DfO505, DfO506, DfO507, DfO508, DfO509, DfO510, DfO511, DfO512, DfO513, DfO514, DfO515, DfO516, DfO517, DfO518, DfO519, DfO520, DfO521, DfO522, DfO523, DfO524, DfO525, DfO526], 41558⟩, (nu 56), ⟨[DfO473, DfO474, DfO475, DfO476, DfO477, DfO478, DfO479, DfO480, DfO481, DfO482, DfO483, DfO484, DfO485, DfO486, DfO487, DfO488, DfO489, DfO490, DfO491, DfO492, DfO493, DfO494, DfO495, DfO496, DfO497, DfO498, DfO499, DfO500, DfO501, DfO502, DfO503, DfO504, DfO505, DfO506, DfO507, DfO508, DfO509, DfO510, DfO511, DfO512, DfO513, DfO514, DfO515, DfO516, DfO517, DfO518, DfO519, DfO520, DfO521, DfO522, DfO523, DfO524, DfO525, DfO526], 41615⟩⟩
theorem DfT141 : Ent.check Tryz.prog known [] 990 DfE141 = true := by kernel_rfl
theorem DfK141 {W : World} (hW : LibW W) : DfE141.Ok Tryz.prog (KG W) := Ent.ok_of mixed (known_ok hW) Tab.ok_nil DfT141
def DfE142 : Ent := ⟨93, DfQ0a, ⟨[], 41625⟩, DfQ0v 41625, ⟨DfQ0o 41625, 41953⟩⟩
theorem DfT142 : Ent.check Tryz.prog known [] 990 DfE142 = true := by kernel_rfl
theorem DfK142 {W : World} (hW : LibW W) : DfE142.Ok Tryz.prog (KG W) := Ent.ok_of mixed (known_ok hW) Tab.ok_nil DfT142
def DfE143 : Ent := ⟨176, (.cons (.sl 41952 0 60 6 false) (.cons (.fn 177 .nil (.cons (.ptr 41623 0) .nil)) .nil)), ⟨[DfO527, DfO528, DfO529, DfO530, DfO531, DfO532, DfO533, DfO534, DfO535, DfO536, DfO537, DfO538, DfO539, DfO540, DfO541, DfO542, DfO543, DfO544, DfO545, DfO546, DfO547, DfO548, DfO549, DfO550, DfO551, DfO552, DfO553, DfO554, DfO555, DfO556, DfO557, DfO558, DfO559, DfO560, DfO561, DfO562, DfO563, DfO564, DfO565, DfO566, DfO567, DfO568, DfO569, DfO570, DfO571, DfO572, DfO573, DfO574, DfO575, DfO576, DfO577, DfO578, DfO579, DfO580], 41953⟩, (nu 57), ⟨[DfO527, DfO528, DfO529, DfO530, DfO531, DfO532, DfO533, DfO534, DfO535, DfO536, DfO537, DfO538, DfO539, DfO540, DfO541, DfO542, DfO543, DfO544, DfO545, DfO546, DfO547, DfO548, DfO549, DfO550, DfO551, DfO552, DfO553, DfO554, DfO555, DfO556, DfO557, DfO558, DfO559, DfO560, DfO561, DfO562, DfO563, DfO564, DfO565, DfO566, DfO567, DfO568, DfO569, DfO570, DfO571, DfO572, DfO573, DfO574, DfO575, DfO576, DfO577, DfO578, DfO579, DfO580], 42011⟩⟩
theorem DfT143 : Ent.check Tryz.prog known [] 990 DfE143 = true := by kernel_rfl
theorem DfK143 {W : World} (hW : LibW W) : DfE143.Ok Tryz.prog (KG W) := Ent.ok_of mixed (known_ok hW) Tab.ok_nil DfT143
def DfE144 : Ent := ⟨93, DfQ0a, ⟨[], 42021⟩, DfQ0v 42021, ⟨DfQ0o 42021, 42349⟩⟩
theorem DfT144 : Ent.check Tryz.prog known [] 990 DfE144 = true := by kernel_rfl
theorem DfK144 {W : World} (hW : LibW W) : DfE144.Ok Tryz.prog (KG W) := Ent.ok_of mixed (known_ok hW) Tab.ok_nil DfT144
def DfE145 : Ent := ⟨176, (.cons (.sl 42348 0 60 6 false) (.cons (.fn 177 .nil (.cons (.ptr 42019 0) .nil)) .nil)), ⟨[DfO581, DfO582, DfO583, DfO584, DfO585, DfO586, DfO587, DfO588, DfO589, DfO590, DfO591, DfO592, DfO593, DfO594, DfO595, DfO596, DfO597, DfO598, DfO599, DfO600, DfO601, DfO602, DfO603, DfO604, DfO605, DfO606, DfO607, DfO608, DfO609, DfO610, DfO611, DfO612, DfO613, DfO614, DfO615, DfO616, DfO617, DfO618, DfO619, DfO620, DfO621, DfO622, DfO623, DfO624, DfO625, DfO626, DfO627, DfO628, DfO629, DfO630, DfO631, DfO632, DfO633, DfO634], 42349⟩, (nu 58), ⟨[DfO581, DfO582, DfO583, DfO584, DfO585, DfO586, DfO587, DfO588, DfO589, DfO590, DfO591, DfO592, DfO593, DfO594, DfO595, DfO596, DfO597, DfO598, DfO599, DfO600, DfO601, DfO602, DfO603, DfO604, DfO605, DfO606, DfO607, DfO608, DfO609, DfO610, DfO611, DfO612, DfO613, DfO614, DfO615, DfO616, DfO617, DfO618, DfO619, DfO620, DfO621, DfO622, DfO623, DfO624, DfO625, DfO626, DfO627, DfO628, DfO629, DfO630, DfO631, DfO632, DfO633, DfO634], 42408⟩⟩
theorem DfT145 : Ent.check Tryz.prog known [] 990 DfE145 = true := by kernel_rfl
theorem DfK145 {W : World} (hW : LibW W) : DfE145.Ok Tryz.prog (KG W) := Ent.ok_of mixed (known_ok hW) Tab.ok_nil DfT145
def DfE146 : Ent := ⟨93, DfQ0a, ⟨[], 42418⟩, DfQ0v 42418, ⟨DfQ0o 42418, 42746⟩⟩
theorem DfT146 : Ent.check Tryz.prog known [] 990 DfE146 = true := by kernel_rfl
theorem DfK146 {W : World} (hW : LibW W) : DfE146.Ok Tryz.prog (KG W) := Ent.ok_of mixed (known_ok hW) Tab.ok_nil DfT146
def DfE147 : Ent := ⟨176, (.cons (.sl 42745 0 60 6 false) (.cons (.fn 177 .nil (.cons (.ptr 42416 0) .nil)) .nil)), ⟨[DfO635, DfO636, DfO637, DfO638, DfO639, DfO640, DfO641, DfO642, DfO643, DfO644, DfO645, DfO646, DfO647, DfO648, DfO649, DfO650, DfO651, DfO652, DfO653, DfO654, DfO655, DfO656, DfO657, DfO658, DfO659, DfO660, DfO661, DfO662, DfO663, DfO664, DfO665, DfO666, DfO667, DfO668, DfO669, DfO670, DfO671, DfO672, DfO673, DfO674, DfO675, DfO676, DfO677, DfO678, DfO679, DfO680, DfO681, DfO682, DfO683, DfO684, DfO685, DfO686, DfO687, DfO688], 42746⟩, (nu 59), ⟨[DfO635, DfO636, DfO637, DfO638, DfO639, DfO640, DfO641, DfO642, DfO643, DfO644, DfO645, DfO646, DfO647, DfO648, DfO649, DfO650, DfO651, DfO652, DfO653, DfO654, DfO655, DfO656, DfO657, DfO658, DfO659, DfO660, DfO661, DfO662, DfO663, DfO664, DfO665, DfO666, DfO667, DfO668, DfO669, DfO670, DfO671, DfO672, DfO673, DfO674, DfO675, DfO676, DfO677, DfO678, DfO679, DfO680, DfO681, DfO682, DfO683, DfO684, DfO685, DfO686, DfO687, DfO688], 42806⟩⟩
theorem DfT147 : Ent.check Tryz.prog known [] 990 DfE147 = true := by kernel_rfl
theorem DfK147 {W : World} (hW : LibW W) : DfE147.Ok Tryz.prog (KG W) := Ent.ok_of mixed (known_ok hW) Tab.ok_nil DfT147
end Go.Proofs.YtfmlgiafkbakcaaGreatDoor

/- Calls that were proved one by one: what the evaluator says. -/
import Derived.Test.YtpepepkfjimoeaaGreatDoorDsO
import Derived.Test.YtpepepkfjimoeaaGreatDoorProg
import Derived.ProofKit
import Derived.Test.YtpepepkfjimoeaaGreatDoorVy
namespace Go.Proofs.YtpepepkfjimoeaaGreatDoor
open Go.Proofs.YtpepepkfjimoeaaGreatDoor.Ev
set_option maxRecDepth 100000

def DsE193 : Ent := ⟨30, (.cons (.str 920 DsS114) (.cons (.str 1 10) .nil)), ⟨[], 30743⟩, (.tup (avs [(.str 29 DsS115), (.str 890 DsS116), (.bool true)])), ⟨[], 30755⟩⟩
theorem DsT193 : Ent.check Tryz.prog known [] 990 DsE193 = true := by kernel_rfl
theorem DsK193 {W : World} (hW : LibW W) : DsE193.Ok Tryz.prog (KG W) := Ent.ok_of mixed (known_ok hW) Tab.ok_nil DsT193
def DsE194 : Ent := ⟨32, (.cons (.ptr 30793 0) .nil), ⟨[DsO229], 30794⟩, (.tup (avs [(.agg (avs [(nu 17), (nu 0), (.sl 30841 0 2 3 false)])), (.bool true)])), ⟨[DsO230, DsO231], 30853⟩⟩
theorem DsT194 : Ent.check Tryz.prog known [] 990 DsE194 = true := by kernel_rfl
theorem DsK194 {W : World} (hW : LibW W) : DsE194.Ok Tryz.prog (KG W) := Ent.ok_of mixed (known_ok hW) Tab.ok_nil DsT194
def DsE195 : Ent := ⟨30, (.cons (.str 890 DsS116) (.cons (.str 1 10) .nil)), ⟨[], 30867⟩, (.tup (avs [(.str 31 DsS117), (.str 858 DsS118), (.bool true)])), ⟨[], 30879⟩⟩
theorem DsT195 : Ent.check Tryz.prog known [] 990 DsE195 = true := by kernel_rfl
theorem DsK195 {W : World} (hW : LibW W) : DsE195.Ok Tryz.prog (KG W) := Ent.ok_of mixed (known_ok hW) Tab.ok_nil DsT195
def DsE196 : Ent := ⟨32, (.cons (.ptr 30917 0) .nil), ⟨[DsO232], 30918⟩, (.tup (avs [(.agg (avs [(nu 18), (nu 0), (.sl 30966 0 2 3 false)])), (.bool true)])), ⟨[DsO233, DsO234], 30978⟩⟩
theorem DsT196 : Ent.check Tryz.prog known [] 990 DsE196 = true := by kernel_rfl
theorem DsK196 {W : World} (hW : LibW W) : DsE196.Ok Tryz.prog (KG W) := Ent.ok_of mixed (known_ok hW) Tab.ok_nil DsT196
def DsE197 : Ent := ⟨30, (.cons (.str 858 DsS118) (.cons (.str 1 10) .nil)), ⟨[], 30992⟩, (.tup (avs [(.str 28 DsS119), (.str 829 DsS120), (.bool true)])), ⟨[], 31004⟩⟩
theorem DsT197 : Ent.check Tryz.prog known [] 990 DsE197 = true := by kernel_rfl
theorem DsK197 {W : World} (hW : LibW W) : DsE197.Ok Tryz.prog (KG W) := Ent.ok_of mixed (known_ok hW) Tab.ok_nil DsT197
def DsE198 : Ent := ⟨32, (.cons (.ptr 31041 0) .nil), ⟨[DsO235], 31042⟩, (.tup (avs [(.agg (avs [(nu 19), (nu 0), (.sl 31091 0 2 3 false)])), (.bool true)])), ⟨[DsO236, DsO237], 31103⟩⟩
theorem DsT198 : Ent.check Tryz.prog known [] 990 DsE198 = true := by kernel_rfl
theorem DsK198 {W : World} (hW : LibW W) : DsE198.Ok Tryz.prog (KG W) := Ent.ok_of mixed (known_ok hW) Tab.ok_nil DsT198
def DsE199 : Ent := ⟨30, (.cons (.str 829 DsS120) (.cons (.str 1 10) .nil)), ⟨[], 31117⟩, (.tup (avs [(.str 29 DsS121), (.str 799 DsS122), (.bool true)])), ⟨[], 31129⟩⟩
theorem DsT199 : Ent.check Tryz.prog known [] 990 DsE199 = true := by kernel_rfl
theorem DsK199 {W : World} (hW : LibW W) : DsE199.Ok Tryz.prog (KG W) := Ent.ok_of mixed (known_ok hW) Tab.ok_nil DsT199
def DsE200 : Ent := ⟨32, (.cons (.ptr 31166 0) .nil), ⟨[DsO238], 31167⟩, (.tup (avs [(.agg (avs [(nu 19), (nu 0), (.sl 31216 0 2 3 false)])), (.bool true)])), ⟨[DsO239, DsO240], 31228⟩⟩
theorem DsT200 : Ent.check Tryz.prog known [] 990 DsE200 = true := by kernel_rfl
theorem DsK200 {W : World} (hW : LibW W) : DsE200.Ok Tryz.prog (KG W) := Ent.ok_of mixed (known_ok hW) Tab.ok_nil DsT200
def DsE201 : Ent := ⟨30, (.cons (.str 799 DsS122) (.cons (.str 1 10) .nil)), ⟨[], 31242⟩, (.tup (avs [(.str 26 DsS123), (.str 772 DsS124), (.bool true)])), ⟨[], 31254⟩⟩
theorem DsT201 : Ent.check Tryz.prog known [] 990 DsE201 = true := by kernel_rfl
theorem DsK201 {W : World} (hW : LibW W) : DsE201.Ok Tryz.prog (KG W) := Ent.ok_of mixed (known_ok hW) Tab.ok_nil DsT201
def DsE202 : Ent := ⟨32, (.cons (.ptr 31291 0) .nil), ⟨[DsO241], 31292⟩, (.tup (avs [(.agg (avs [(nu 20), (nu 0), (.sl 31342 0 2 3 false)])), (.bool true)])), ⟨[DsO242, DsO243], 31354⟩⟩
theorem DsT202 : Ent.check Tryz.prog known [] 990 DsE202 = true := by kernel_rfl
theorem DsK202 {W : World} (hW : LibW W) : DsE202.Ok Tryz.prog (KG W) := Ent.ok_of mixed (known_ok hW) Tab.ok_nil DsT202
def DsE203 : Ent := ⟨30, (.cons (.str 772 DsS124) (.cons (.str 1 10) .nil)), ⟨[], 31368⟩, (.tup (avs [(.str 27 DsS125), (.str 744 DsS126), (.bool true)])), ⟨[], 31380⟩⟩
theorem DsT203 : Ent.check Tryz.prog known [] 990 DsE203 = true := by kernel_rfl
theorem DsK203 {W : World} (hW : LibW W) : DsE203.Ok Tryz.prog (KG W) := Ent.ok_of mixed (known_ok hW) Tab.ok_nil DsT203
def DsE204 : Ent := ⟨32, (.cons (.ptr 31417 0) .nil), ⟨[DsO244], 31418⟩, (.tup (avs [(.agg (avs [(nu 20), (nu 0), (.sl 31468 0 2 3 false)])), (.bool true)])), ⟨[DsO245, DsO246], 31480⟩⟩
theorem DsT204 : Ent.check Tryz.prog known [] 990 DsE204 = true := by kernel_rfl
theorem DsK204 {W : World} (hW : LibW W) : DsE204.Ok Tryz.prog (KG W) := Ent.ok_of mixed (known_ok hW) Tab.ok_nil DsT204
def DsE205 : Ent := ⟨30, (.cons (.str 744 DsS126) (.cons (.str 1 10) .nil)), ⟨[], 31494⟩, (.tup (avs [(.str 28 DsS127), (.str 715 DsS128), (.bool true)])), ⟨[], 31506⟩⟩
theorem DsT205 : Ent.check Tryz.prog known [] 990 DsE205 = true := by kernel_rfl
theorem DsK205 {W : World} (hW : LibW W) : DsE205.Ok Tryz.prog (KG W) := Ent.ok_of mixed (known_ok hW) Tab.ok_nil DsT205
def DsE206 : Ent := ⟨32, (.cons (.ptr 31543 0) .nil), ⟨[DsO247], 31544⟩, (.tup (avs [(.agg (avs [(nu 21), (nu 0), (.sl 31595 0 2 3 false)])), (.bool true)])), ⟨[DsO248, DsO249], 31607⟩⟩
theorem DsT206 : Ent.check Tryz.prog known [] 990 DsE206 = true := by kernel_rfl
theorem DsK206 {W : World} (hW : LibW W) : DsE206.Ok Tryz.prog (KG W) := Ent.ok_of mixed (known_ok hW) Tab.ok_nil DsT206
def DsE207 : Ent := ⟨30, (.cons (.str 715 DsS128) (.cons (.str 1 10) .nil)), ⟨[], 31621⟩, (.tup (avs [(.str 29 DsS129), (.str 685 DsS130), (.bool true)])), ⟨[], 31633⟩⟩
theorem DsT207 : Ent.check Tryz.prog known [] 990 DsE207 = true := by kernel_rfl
theorem DsK207 {W : World} (hW : LibW W) : DsE207.Ok Tryz.prog (KG W) := Ent.ok_of mixed (known_ok hW) Tab.ok_nil DsT207
def DsE208 : Ent := ⟨32, (.cons (.ptr 31670 0) .nil), ⟨[DsO250], 31671⟩, (.tup (avs [(.agg (avs [(nu 21), (nu 0), (.sl 31722 0 2 3 false)])), (.bool true)])), ⟨[DsO251, DsO252], 31734⟩⟩
theorem DsT208 : Ent.check Tryz.prog known [] 990 DsE208 = true := by kernel_rfl
theorem DsK208 {W : World} (hW : LibW W) : DsE208.Ok Tryz.prog (KG W) := Ent.ok_of mixed (known_ok hW) Tab.ok_nil DsT208
def DsE209 : Ent := ⟨30, (.cons (.str 685 DsS130) (.cons (.str 1 10) .nil)), ⟨[], 31748⟩, (.tup (avs [(.str 28 DsS131), (.str 656 DsS132), (.bool true)])), ⟨[], 31760⟩⟩
theorem DsT209 : Ent.check Tryz.prog known [] 990 DsE209 = true := by kernel_rfl
theorem DsK209 {W : World} (hW : LibW W) : DsE209.Ok Tryz.prog (KG W) := Ent.ok_of mixed (known_ok hW) Tab.ok_nil DsT209
def DsE210 : Ent := ⟨32, (.cons (.ptr 31797 0) .nil), ⟨[DsO253], 31798⟩, (.tup (avs [(.agg (avs [(nu 22), (nu 0), (.sl 31850 0 2 3 false)])), (.bool true)])), ⟨[DsO254, DsO255], 31862⟩⟩
theorem DsT210 : Ent.check Tryz.prog known [] 990 DsE210 = true := by kernel_rfl
theorem DsK210 {W : World} (hW : LibW W) : DsE210.Ok Tryz.prog (KG W) := Ent.ok_of mixed (known_ok hW) Tab.ok_nil DsT210
def DsE211 : Ent := ⟨30, (.cons (.str 656 DsS132) (.cons (.str 1 10) .nil)), ⟨[], 31876⟩, (.tup (avs [(.str 29 DsS133), (.str 626 DsS134), (.bool true)])), ⟨[], 31888⟩⟩
theorem DsT211 : Ent.check Tryz.prog known [] 990 DsE211 = true := by kernel_rfl
theorem DsK211 {W : World} (hW : LibW W) : DsE211.Ok Tryz.prog (KG W) := Ent.ok_of mixed (known_ok hW) Tab.ok_nil DsT211
def DsE212 : Ent := ⟨32, (.cons (.ptr 31925 0) .nil), ⟨[DsO256], 31926⟩, (.tup (avs [(.agg (avs [(nu 22), (nu 0), (.sl 31978 0 2 3 false)])), (.bool true)])), ⟨[DsO257, DsO258], 31990⟩⟩
theorem DsT212 : Ent.check Tryz.prog known [] 990 DsE212 = true := by kernel_rfl
theorem DsK212 {W : World} (hW : LibW W) : DsE212.Ok Tryz.prog (KG W) := Ent.ok_of mixed (known_ok hW) Tab.ok_nil DsT212
def DsE213 : Ent := ⟨30, (.cons (.str 626 DsS134) (.cons (.str 1 10) .nil)), ⟨[], 32004⟩, (.tup (avs [(.str 28 DsS135), (.str 597 DsS136), (.bool true)])), ⟨[], 32016⟩⟩
theorem DsT213 : Ent.check Tryz.prog known [] 990 DsE213 = true := by kernel_rfl
theorem DsK213 {W : World} (hW : LibW W) : DsE213.Ok Tryz.prog (KG W) := Ent.ok_of mixed (known_ok hW) Tab.ok_nil DsT213
def DsE214 : Ent := ⟨32, (.cons (.ptr 32053 0) .nil), ⟨[DsO259], 32054⟩, (.tup (avs [(.agg (avs [(nu 23), (nu 0), (.sl 32107 0 2 3 false)])), (.bool true)])), ⟨[DsO260, DsO261], 32119⟩⟩
theorem DsT214 : Ent.check Tryz.prog known [] 990 DsE214 = true := by kernel_rfl
theorem DsK214 {W : World} (hW : LibW W) : DsE214.Ok Tryz.prog (KG W) := Ent.ok_of mixed (known_ok hW) Tab.ok_nil DsT214
def DsE215 : Ent := ⟨30, (.cons (.str 597 DsS136) (.cons (.str 1 10) .nil)), ⟨[], 32133⟩, (.tup (avs [(.str 29 DsS137), (.str 567 DsS138), (.bool true)])), ⟨[], 32145⟩⟩
theorem DsT215 : Ent.check Tryz.prog known [] 990 DsE215 = true := by kernel_rfl
theorem DsK215 {W : World} (hW : LibW W) : DsE215.Ok Tryz.prog (KG W) := Ent.ok_of mixed (known_ok hW) Tab.ok_nil DsT215
def DsE216 : Ent := ⟨32, (.cons (.ptr 32182 0) .nil), ⟨[DsO262], 32183⟩, (.tup (avs [(.agg (avs [(nu 23), (nu 0), (.sl 32236 0 2 3 false)])), (.bool true)])), ⟨[DsO263, DsO264], 32248⟩⟩
theorem DsT216 : Ent.check Tryz.prog known [] 990 DsE216 = true := by kernel_rfl
theorem DsK216 {W : World} (hW : LibW W) : DsE216.Ok Tryz.prog (KG W) := Ent.ok_of mixed (known_ok hW) Tab.ok_nil DsT216
def DsE217 : Ent := ⟨30, (.cons (.str 567 DsS138) (.cons (.str 1 10) .nil)), ⟨[], 32262⟩, (.tup (avs [(.str 28 DsS139), (.str 538 DsS140), (.bool true)])), ⟨[], 32274⟩⟩
theorem DsT217 : Ent.check Tryz.prog known [] 990 DsE217 = true := by kernel_rfl
theorem DsK217 {W : World} (hW : LibW W) : DsE217.Ok Tryz.prog (KG W) := Ent.ok_of mixed (known_ok hW) Tab.ok_nil DsT217
def DsE218 : Ent := ⟨32, (.cons (.ptr 32311 0) .nil), ⟨[DsO265], 32312⟩, (.tup (avs [(.agg (avs [(nu 24), (nu 0), (.sl 32366 0 2 3 false)])), (.bool true)])), ⟨[DsO266, DsO267], 32378⟩⟩
theorem DsT218 : Ent.check Tryz.prog known [] 990 DsE218 = true := by kernel_rfl
theorem DsK218 {W : World} (hW : LibW W) : DsE218.Ok Tryz.prog (KG W) := Ent.ok_of mixed (known_ok hW) Tab.ok_nil DsT218
def DsE219 : Ent := ⟨30, (.cons (.str 538 DsS140) (.cons (.str 1 10) .nil)), ⟨[], 32392⟩, (.tup (avs [(.str 29 DsS141), (.str 508 DsS142), (.bool true)])), ⟨[], 32404⟩⟩
theorem DsT219 : Ent.check Tryz.prog known [] 990 DsE219 = true := by kernel_rfl
theorem DsK219 {W : World} (hW : LibW W) : DsE219.Ok Tryz.prog (KG W) := Ent.ok_of mixed (known_ok hW) Tab.ok_nil DsT219
def DsE220 : Ent := ⟨32, (.cons (.ptr 32441 0) .nil), ⟨[DsO268], 32442⟩, (.tup (avs [(.agg (avs [(nu 24), (nu 0), (.sl 32496 0 2 3 false)])), (.bool true)])), ⟨[DsO269, DsO270], 32508⟩⟩
theorem DsT220 : Ent.check Tryz.prog known [] 990 DsE220 = true := by kernel_rfl
theorem DsK220 {W : World} (hW : LibW W) : DsE220.Ok Tryz.prog (KG W) := Ent.ok_of mixed (known_ok hW) Tab.ok_nil DsT220
def DsE221 : Ent := ⟨30, (.cons (.str 508 DsS142) (.cons (.str 1 10) .nil)), ⟨[], 32522⟩, (.tup (avs [(.str 26 DsS143), (.str 481 DsS144), (.bool true)])), ⟨[], 32534⟩⟩
theorem DsT221 : Ent.check Tryz.prog known [] 990 DsE221 = true := by kernel_rfl
theorem DsK221 {W : World} (hW : LibW W) : DsE221.Ok Tryz.prog (KG W) := Ent.ok_of mixed (known_ok hW) Tab.ok_nil DsT221
def DsE222 : Ent := ⟨32, (.cons (.ptr 32571 0) .nil), ⟨[DsO271], 32572⟩, (.tup (avs [(.agg (avs [(nu 25), (nu 0), (.sl 32627 0 2 3 false)])), (.bool true)])), ⟨[DsO272, DsO273], 32639⟩⟩
theorem DsT222 : Ent.check Tryz.prog known [] 990 DsE222 = true := by kernel_rfl
theorem DsK222 {W : World} (hW : LibW W) : DsE222.Ok Tryz.prog (KG W) := Ent.ok_of mixed (known_ok hW) Tab.ok_nil DsT222
def DsE223 : Ent := ⟨30, (.cons (.str 481 DsS144) (.cons (.str 1 10) .nil)), ⟨[], 32653⟩, (.tup (avs [(.str 27 DsS145), (.str 453 DsS146), (.bool true)])), ⟨[], 32665⟩⟩
theorem DsT223 : Ent.check Tryz.prog known [] 990 DsE223 = true := by kernel_rfl
theorem DsK223 {W : World} (hW : LibW W) : DsE223.Ok Tryz.prog (KG W) := Ent.ok_of mixed (known_ok hW) Tab.ok_nil DsT223
def DsE224 : Ent := ⟨32, (.cons (.ptr 32702 0) .nil), ⟨[DsO274], 32703⟩, (.tup (avs [(.agg (avs [(nu 25), (nu 0), (.sl 32758 0 2 3 false)])), (.bool true)])), ⟨[DsO275, DsO276], 32770⟩⟩
theorem DsT224 : Ent.check Tryz.prog known [] 990 DsE224 = true := by kernel_rfl
theorem DsK224 {W : World} (hW : LibW W) : DsE224.Ok Tryz.prog (KG W) := Ent.ok_of mixed (known_ok hW) Tab.ok_nil DsT224
def DsE225 : Ent := ⟨30, (.cons (.str 453 DsS146) (.cons (.str 1 10) .nil)), ⟨[], 32784⟩, (.tup (avs [(.str 26 DsS147), (.str 426 DsS148), (.bool true)])), ⟨[], 32796⟩⟩
theorem DsT225 : Ent.check Tryz.prog known [] 990 DsE225 = true := by kernel_rfl
theorem DsK225 {W : World} (hW : LibW W) : DsE225.Ok Tryz.prog (KG W) := Ent.ok_of mixed (known_ok hW) Tab.ok_nil DsT225
def DsE226 : Ent := ⟨32, (.cons (.ptr 32833 0) .nil), ⟨[DsO277], 32834⟩, (.tup (avs [(.agg (avs [(nu 26), (nu 0), (.sl 32890 0 2 3 false)])), (.bool true)])), ⟨[DsO278, DsO279], 32902⟩⟩
theorem DsT226 : Ent.check Tryz.prog known [] 990 DsE226 = true := by kernel_rfl
theorem DsK226 {W : World} (hW : LibW W) : DsE226.Ok Tryz.prog (KG W) := Ent.ok_of mixed (known_ok hW) Tab.ok_nil DsT226
def DsE227 : Ent := ⟨30, (.cons (.str 426 DsS148) (.cons (.str 1 10) .nil)), ⟨[], 32916⟩, (.tup (avs [(.str 27 DsS149), (.str 398 DsS150), (.bool true)])), ⟨[], 32928⟩⟩
theorem DsT227 : Ent.check Tryz.prog known [] 990 DsE227 = true := by kernel_rfl
theorem DsK227 {W : World} (hW : LibW W) : DsE227.Ok Tryz.prog (KG W) := Ent.ok_of mixed (known_ok hW) Tab.ok_nil DsT227
def DsE228 : Ent := ⟨32, (.cons (.ptr 32965 0) .nil), ⟨[DsO280], 32966⟩, (.tup (avs [(.agg (avs [(nu 26), (nu 0), (.sl 33022 0 2 3 false)])), (.bool true)])), ⟨[DsO281, DsO282], 33034⟩⟩
theorem DsT228 : Ent.check Tryz.prog known [] 990 DsE228 = true := by kernel_rfl
theorem DsK228 {W : World} (hW : LibW W) : DsE228.Ok Tryz.prog (KG W) := Ent.ok_of mixed (known_ok hW) Tab.ok_nil DsT228
def DsE229 : Ent := ⟨30, (.cons (.str 398 DsS150) (.cons (.str 1 10) .nil)), ⟨[], 33048⟩, (.tup (avs [(.str 26 DsS151), (.str 371 DsS152), (.bool true)])), ⟨[], 33060⟩⟩
theorem DsT229 : Ent.check Tryz.prog known [] 990 DsE229 = true := by kernel_rfl
theorem DsK229 {W : World} (hW : LibW W) : DsE229.Ok Tryz.prog (KG W) := Ent.ok_of mixed (known_ok hW) Tab.ok_nil DsT229
def DsE230 : Ent := ⟨32, (.cons (.ptr 33097 0) .nil), ⟨[DsO283], 33098⟩, (.tup (avs [(.agg (avs [(nu 27), (nu 0), (.sl 33155 0 2 3 false)])), (.bool true)])), ⟨[DsO284, DsO285], 33167⟩⟩
theorem DsT230 : Ent.check Tryz.prog known [] 990 DsE230 = true := by kernel_rfl
theorem DsK230 {W : World} (hW : LibW W) : DsE230.Ok Tryz.prog (KG W) := Ent.ok_of mixed (known_ok hW) Tab.ok_nil DsT230
def DsE231 : Ent := ⟨30, (.cons (.str 371 DsS152) (.cons (.str 1 10) .nil)), ⟨[], 33181⟩, (.tup (avs [(.str 27 DsS153), (.str 343 DsS154), (.bool true)])), ⟨[], 33193⟩⟩
theorem DsT231 : Ent.check Tryz.prog known [] 990 DsE231 = true := by kernel_rfl
theorem DsK231 {W : World} (hW : LibW W) : DsE231.Ok Tryz.prog (KG W) := Ent.ok_of mixed (known_ok hW) Tab.ok_nil DsT231
def DsE232 : Ent := ⟨32, (.cons (.ptr 33230 0) .nil), ⟨[DsO286], 33231⟩, (.tup (avs [(.agg (avs [(nu 27), (nu 0), (.sl 33288 0 2 3 false)])), (.bool true)])), ⟨[DsO287, DsO288], 33300⟩⟩
theorem DsT232 : Ent.check Tryz.prog known [] 990 DsE232 = true := by kernel_rfl
theorem DsK232 {W : World} (hW : LibW W) : DsE232.Ok Tryz.prog (KG W) := Ent.ok_of mixed (known_ok hW) Tab.ok_nil DsT232
def DsE233 : Ent := ⟨30, (.cons (.str 343 DsS154) (.cons (.str 1 10) .nil)), ⟨[], 33314⟩, (.tup (avs [(.str 28 DsS155), (.str 314 DsS156), (.bool true)])), ⟨[], 33326⟩⟩
theorem DsT233 : Ent.check Tryz.prog known [] 990 DsE233 = true := by kernel_rfl
theorem DsK233 {W : World} (hW : LibW W) : DsE233.Ok Tryz.prog (KG W) := Ent.ok_of mixed (known_ok hW) Tab.ok_nil DsT233
def DsE234 : Ent := ⟨63, (.cons (.str 3 7697516) .nil), ⟨[], 33366⟩, (nu 28), ⟨[], 33394⟩⟩
theorem DsT234 : Ent.check Tryz.prog known [] 990 DsE234 = true := by kernel_rfl
theorem DsK234 {W : World} (hW : LibW W) : DsE234.Ok Tryz.prog (KG W) := Ent.ok_of mixed (known_ok hW) Tab.ok_nil DsT234
def DsE235 : Ent := ⟨32, (.cons (.ptr 33363 0) .nil), ⟨[DsO289], 33364⟩, (.tup (avs [(.agg (avs [(nu 28), (nu 0), (.sl 33422 0 2 3 false)])), (.bool true)])), ⟨[DsO290, DsO291], 33434⟩⟩
theorem DsT235 : Ent.check Tryz.prog known [(63, [DsE234])] 990 DsE235 = true := by kernel_rfl
theorem DsK235 {W : World} (hW : LibW W) : DsE235.Ok Tryz.prog (KG W) := Ent.ok_of mixed (known_ok hW) (Tab.ok_cons (f := 63) (Ent.ok_cons (DsK234 hW) Ent.ok_nil) Tab.ok_nil) DsT235
def DsE236 : Ent := ⟨30, (.cons (.str 314 DsS156) (.cons (.str 1 10) .nil)), ⟨[], 33448⟩, (.tup (avs [(.str 29 DsS157), (.str 284 DsS158), (.bool true)])), ⟨[], 33460⟩⟩
theorem DsT236 : Ent.check Tryz.prog known [] 990 DsE236 = true := by kernel_rfl
theorem DsK236 {W : World} (hW : LibW W) : DsE236.Ok Tryz.prog (KG W) := Ent.ok_of mixed (known_ok hW) Tab.ok_nil DsT236
def DsE237 : Ent := ⟨63, (.cons (.str 3 7697516) .nil), ⟨[], 33500⟩, (nu 28), ⟨[], 33528⟩⟩
theorem DsT237 : Ent.check Tryz.prog known [] 990 DsE237 = true := by kernel_rfl
theorem DsK237 {W : World} (hW : LibW W) : DsE237.Ok Tryz.prog (KG W) := Ent.ok_of mixed (known_ok hW) Tab.ok_nil DsT237
def DsE238 : Ent := ⟨32, (.cons (.ptr 33497 0) .nil), ⟨[DsO292], 33498⟩, (.tup (avs [(.agg (avs [(nu 28), (nu 0), (.sl 33556 0 2 3 false)])), (.bool true)])), ⟨[DsO293, DsO294], 33568⟩⟩
theorem DsT238 : Ent.check Tryz.prog known [(63, [DsE237])] 990 DsE238 = true := by kernel_rfl
theorem DsK238 {W : World} (hW : LibW W) : DsE238.Ok Tryz.prog (KG W) := Ent.ok_of mixed (known_ok hW) (Tab.ok_cons (f := 63) (Ent.ok_cons (DsK237 hW) Ent.ok_nil) Tab.ok_nil) DsT238
def DsE239 : Ent := ⟨30, (.cons (.str 284 DsS158) (.cons (.str 1 10) .nil)), ⟨[], 33582⟩, (.tup (avs [(.str 26 DsS159), (.str 257 DsS160), (.bool true)])), ⟨[], 33594⟩⟩
theorem DsT239 : Ent.check Tryz.prog known [] 990 DsE239 = true := by kernel_rfl
theorem DsK239 {W : World} (hW : LibW W) : DsE239.Ok Tryz.prog (KG W) := Ent.ok_of mixed (known_ok hW) Tab.ok_nil DsT239
def DsE240 : Ent := ⟨63, (.cons (.str 2 25964) .nil), ⟨[], 33634⟩, (nu 29), ⟨[], 33663⟩⟩
theorem DsT240 : Ent.check Tryz.prog known [] 990 DsE240 = true := by kernel_rfl
theorem DsK240 {W : World} (hW : LibW W) : DsE240.Ok Tryz.prog (KG W) := Ent.ok_of mixed (known_ok hW) Tab.ok_nil DsT240
def DsE241 : Ent := ⟨32, (.cons (.ptr 33631 0) .nil), ⟨[DsO295], 33632⟩, (.tup (avs [(.agg (avs [(nu 29), (nu 0), (.sl 33691 0 2 3 false)])), (.bool true)])), ⟨[DsO296, DsO297], 33703⟩⟩
theorem DsT241 : Ent.check Tryz.prog known [(63, [DsE240])] 990 DsE241 = true := by kernel_rfl
theorem DsK241 {W : World} (hW : LibW W) : DsE241.Ok Tryz.prog (KG W) := Ent.ok_of mixed (known_ok hW) (Tab.ok_cons (f := 63) (Ent.ok_cons (DsK240 hW) Ent.ok_nil) Tab.ok_nil) DsT241
def DsE242 : Ent := ⟨30, (.cons (.str 257 DsS160) (.cons (.str 1 10) .nil)), ⟨[], 33717⟩, (.tup (avs [(.str 27 DsS161), (.str 229 DsS162), (.bool true)])), ⟨[], 33729⟩⟩
theorem DsT242 : Ent.check Tryz.prog known [] 990 DsE242 = true := by kernel_rfl
theorem DsK242 {W : World} (hW : LibW W) : DsE242.Ok Tryz.prog (KG W) := Ent.ok_of mixed (known_ok hW) Tab.ok_nil DsT242
def DsE243 : Ent := ⟨63, (.cons (.str 2 25964) .nil), ⟨[], 33769⟩, (nu 29), ⟨[], 33798⟩⟩
theorem DsT243 : Ent.check Tryz.prog known [] 990 DsE243 = true := by kernel_rfl
theorem DsK243 {W : World} (hW : LibW W) : DsE243.Ok Tryz.prog (KG W) := Ent.ok_of mixed (known_ok hW) Tab.ok_nil DsT243
def DsE244 : Ent := ⟨32, (.cons (.ptr 33766 0) .nil), ⟨[DsO298], 33767⟩, (.tup (avs [(.agg (avs [(nu 29), (nu 0), (.sl 33826 0 2 3 false)])), (.bool true)])), ⟨[DsO299, DsO300], 33838⟩⟩
theorem DsT244 : Ent.check Tryz.prog known [(63, [DsE243])] 990 DsE244 = true := by kernel_rfl
theorem DsK244 {W : World} (hW : LibW W) : DsE244.Ok Tryz.prog (KG W) := Ent.ok_of mixed (known_ok hW) (Tab.ok_cons (f := 63) (Ent.ok_cons (DsK243 hW) Ent.ok_nil) Tab.ok_nil) DsT244
def DsE245 : Ent := ⟨30, (.cons (.str 229 DsS162) (.cons (.str 1 10) .nil)), ⟨[], 33852⟩, (.tup (avs [(.str 28 DsS163), (.str 200 DsS164), (.bool true)])), ⟨[], 33864⟩⟩
theorem DsT245 : Ent.check Tryz.prog known [] 990 DsE245 = true := by kernel_rfl
theorem DsK245 {W : World} (hW : LibW W) : DsE245.Ok Tryz.prog (KG W) := Ent.ok_of mixed (known_ok hW) Tab.ok_nil DsT245
def DsE246 : Ent := ⟨63, (.cons (.str 3 7693676) .nil), ⟨[], 33904⟩, (nu 30), ⟨[], 33934⟩⟩
theorem DsT246 : Ent.check Tryz.prog known [] 990 DsE246 = true := by kernel_rfl
theorem DsK246 {W : World} (hW : LibW W) : DsE246.Ok Tryz.prog (KG W) := Ent.ok_of mixed (known_ok hW) Tab.ok_nil DsT246
def DsE247 : Ent := ⟨32, (.cons (.ptr 33901 0) .nil), ⟨[DsO301], 33902⟩, (.tup (avs [(.agg (avs [(nu 30), (nu 0), (.sl 33962 0 2 3 false)])), (.bool true)])), ⟨[DsO302, DsO303], 33974⟩⟩
theorem DsT247 : Ent.check Tryz.prog known [(63, [DsE246])] 990 DsE247 = true := by kernel_rfl
theorem DsK247 {W : World} (hW : LibW W) : DsE247.Ok Tryz.prog (KG W) := Ent.ok_of mixed (known_ok hW) (Tab.ok_cons (f := 63) (Ent.ok_cons (DsK246 hW) Ent.ok_nil) Tab.ok_nil) DsT247
def DsE248 : Ent := ⟨30, (.cons (.str 200 DsS164) (.cons (.str 1 10) .nil)), ⟨[], 33988⟩, (.tup (avs [(.str 29 DsS165), (.str 170 DsS166), (.bool true)])), ⟨[], 34000⟩⟩
theorem DsT248 : Ent.check Tryz.prog known [] 990 DsE248 = true := by kernel_rfl
theorem DsK248 {W : World} (hW : LibW W) : DsE248.Ok Tryz.prog (KG W) := Ent.ok_of mixed (known_ok hW) Tab.ok_nil DsT248
def DsE249 : Ent := ⟨63, (.cons (.str 3 7693676) .nil), ⟨[], 34040⟩, (nu 30), ⟨[], 34070⟩⟩
theorem DsT249 : Ent.check Tryz.prog known [] 990 DsE249 = true := by kernel_rfl
theorem DsK249 {W : World} (hW : LibW W) : DsE249.Ok Tryz.prog (KG W) := Ent.ok_of mixed (known_ok hW) Tab.ok_nil DsT249
def DsE250 : Ent := ⟨32, (.cons (.ptr 34037 0) .nil), ⟨[DsO304], 34038⟩, (.tup (avs [(.agg (avs [(nu 30), (nu 0), (.sl 34098 0 2 3 false)])), (.bool true)])), ⟨[DsO305, DsO306], 34110⟩⟩
theorem DsT250 : Ent.check Tryz.prog known [(63, [DsE249])] 990 DsE250 = true := by kernel_rfl
theorem DsK250 {W : World} (hW : LibW W) : DsE250.Ok Tryz.prog (KG W) := Ent.ok_of mixed (known_ok hW) (Tab.ok_cons (f := 63) (Ent.ok_cons (DsK249 hW) Ent.ok_nil) Tab.ok_nil) DsT250
def DsE251 : Ent := ⟨30, (.cons (.str 170 DsS166) (.cons (.str 1 10) .nil)), ⟨[], 34124⟩, (.tup (avs [(.str 25 DsS167), (.str 144 DsS168), (.bool true)])), ⟨[], 34136⟩⟩
theorem DsT251 : Ent.check Tryz.prog known [] 990 DsE251 = true := by kernel_rfl
theorem DsK251 {W : World} (hW : LibW W) : DsE251.Ok Tryz.prog (KG W) := Ent.ok_of mixed (known_ok hW) Tab.ok_nil DsT251
def DsE252 : Ent := ⟨63, (.cons (.str 4 947157093) .nil), ⟨[], 34176⟩, (nu 31), ⟨[], 34207⟩⟩
theorem DsT252 : Ent.check Tryz.prog known [] 990 DsE252 = true := by kernel_rfl
theorem DsK252 {W : World} (hW : LibW W) : DsE252.Ok Tryz.prog (KG W) := Ent.ok_of mixed (known_ok hW) Tab.ok_nil DsT252
def DsE253 : Ent := ⟨32, (.cons (.ptr 34173 0) .nil), ⟨[DsO307], 34174⟩, (.tup (avs [(.agg (avs [(nu 31), (nu 0), (.sl 34221 0 1 3 false)])), (.bool true)])), ⟨[DsO308, DsO309], 34233⟩⟩
theorem DsT253 : Ent.check Tryz.prog known [(63, [DsE252])] 990 DsE253 = true := by kernel_rfl
theorem DsK253 {W : World} (hW : LibW W) : DsE253.Ok Tryz.prog (KG W) := Ent.ok_of mixed (known_ok hW) (Tab.ok_cons (f := 63) (Ent.ok_cons (DsK252 hW) Ent.ok_nil) Tab.ok_nil) DsT253
def DsE254 : Ent := ⟨30, (.cons (.str 144 DsS168) (.cons (.str 1 10) .nil)), ⟨[], 34247⟩, (.tup (avs [(.str 27 DsS169), (.str 116 DsS170), (.bool true)])), ⟨[], 34259⟩⟩
theorem DsT254 : Ent.check Tryz.prog known [] 990 DsE254 = true := by kernel_rfl
theorem DsK254 {W : World} (hW : LibW W) : DsE254.Ok Tryz.prog (KG W) := Ent.ok_of mixed (known_ok hW) Tab.ok_nil DsT254
def DsE255 : Ent := ⟨63, (.cons (.str 5 232757950565) .nil), ⟨[], 34299⟩, (nu 32), ⟨[], 34331⟩⟩
theorem DsT255 : Ent.check Tryz.prog known [] 990 DsE255 = true := by kernel_rfl
theorem DsK255 {W : World} (hW : LibW W) : DsE255.Ok Tryz.prog (KG W) := Ent.ok_of mixed (known_ok hW) Tab.ok_nil DsT255
def DsE256 : Ent := ⟨32, (.cons (.ptr 34296 0) .nil), ⟨[DsO310], 34297⟩, (.tup (avs [(.agg (avs [(nu 32), (nu 0), (.sl 34345 0 1 3 false)])), (.bool true)])), ⟨[DsO311, DsO312], 34357⟩⟩
theorem DsT256 : Ent.check Tryz.prog known [(63, [DsE255])] 990 DsE256 = true := by kernel_rfl
theorem DsK256 {W : World} (hW : LibW W) : DsE256.Ok Tryz.prog (KG W) := Ent.ok_of mixed (known_ok hW) (Tab.ok_cons (f := 63) (Ent.ok_cons (DsK255 hW) Ent.ok_nil) Tab.ok_nil) DsT256
def DsE257 : Ent := ⟨30, (.cons (.str 116 DsS170) (.cons (.str 1 10) .nil)), ⟨[], 34371⟩, (.tup (avs [(.str 27 DsS84), (.str 88 DsS171), (.bool true)])), ⟨[], 34383⟩⟩
theorem DsT257 : Ent.check Tryz.prog known [] 990 DsE257 = true := by kernel_rfl
theorem DsK257 {W : World} (hW : LibW W) : DsE257.Ok Tryz.prog (KG W) := Ent.ok_of mixed (known_ok hW) Tab.ok_nil DsT257
def DsE258 : Ent := ⟨63, (.cons (.str 5 215611635813) .nil), ⟨[], 34423⟩, (nu 33), ⟨[], 34456⟩⟩
theorem DsT258 : Ent.check Tryz.prog known [] 990 DsE258 = true := by kernel_rfl
theorem DsK258 {W : World} (hW : LibW W) : DsE258.Ok Tryz.prog (KG W) := Ent.ok_of mixed (known_ok hW) Tab.ok_nil DsT258
def DsE259 : Ent := ⟨32, (.cons (.ptr 34420 0) .nil), ⟨[DsO313], 34421⟩, (.tup (avs [(.agg (avs [(nu 33), (nu 0), (.sl 34470 0 1 3 false)])), (.bool true)])), ⟨[DsO314, DsO315], 34482⟩⟩
theorem DsT259 : Ent.check Tryz.prog known [(63, [DsE258])] 990 DsE259 = true := by kernel_rfl
theorem DsK259 {W : World} (hW : LibW W) : DsE259.Ok Tryz.prog (KG W) := Ent.ok_of mixed (known_ok hW) (Tab.ok_cons (f := 63) (Ent.ok_cons (DsK258 hW) Ent.ok_nil) Tab.ok_nil) DsT259
def DsE260 : Ent := ⟨30, (.cons (.str 88 DsS171) (.cons (.str 1 10) .nil)), ⟨[], 34496⟩, (.tup (avs [(.str 27 DsS86), (.str 60 DsS172), (.bool true)])), ⟨[], 34508⟩⟩
theorem DsT260 : Ent.check Tryz.prog known [] 990 DsE260 = true := by kernel_rfl
theorem DsK260 {W : World} (hW : LibW W) : DsE260.Ok Tryz.prog (KG W) := Ent.ok_of mixed (known_ok hW) Tab.ok_nil DsT260
def DsE261 : Ent := ⟨63, (.cons (.str 5 242472215930) .nil), ⟨[], 34548⟩, (nu 34), ⟨[], 34582⟩⟩
theorem DsT261 : Ent.check Tryz.prog known [] 990 DsE261 = true := by kernel_rfl
theorem DsK261 {W : World} (hW : LibW W) : DsE261.Ok Tryz.prog (KG W) := Ent.ok_of mixed (known_ok hW) Tab.ok_nil DsT261
def DsE262 : Ent := ⟨32, (.cons (.ptr 34545 0) .nil), ⟨[DsO316], 34546⟩, (.tup (avs [(.agg (avs [(nu 34), (nu 0), (.sl 34596 0 1 3 false)])), (.bool true)])), ⟨[DsO317, DsO318], 34608⟩⟩
theorem DsT262 : Ent.check Tryz.prog known [(63, [DsE261])] 990 DsE262 = true := by kernel_rfl
theorem DsK262 {W : World} (hW : LibW W) : DsE262.Ok Tryz.prog (KG W) := Ent.ok_of mixed (known_ok hW) (Tab.ok_cons (f := 63) (Ent.ok_cons (DsK261 hW) Ent.ok_nil) Tab.ok_nil) DsT262
def DsE263 : Ent := ⟨30, (.cons (.str 60 DsS172) (.cons (.str 1 10) .nil)), ⟨[], 34622⟩, (.tup (avs [(.str 29 DsS173), (.str 30 DsS174), (.bool true)])), ⟨[], 34634⟩⟩
theorem DsT263 : Ent.check Tryz.prog known [] 990 DsE263 = true := by kernel_rfl
theorem DsK263 {W : World} (hW : LibW W) : DsE263.Ok Tryz.prog (KG W) := Ent.ok_of mixed (known_ok hW) Tab.ok_nil DsT263
def DsE264 : Ent := ⟨63, (.cons (.str 6 59586035344762) .nil), ⟨[], 34674⟩, (nu 35), ⟨[], 34709⟩⟩
theorem DsT264 : Ent.check Tryz.prog known [] 990 DsE264 = true := by kernel_rfl
theorem DsK264 {W : World} (hW : LibW W) : DsE264.Ok Tryz.prog (KG W) := Ent.ok_of mixed (known_ok hW) Tab.ok_nil DsT264
def DsE265 : Ent := ⟨32, (.cons (.ptr 34671 0) .nil), ⟨[DsO319], 34672⟩, (.tup (avs [(.agg (avs [(nu 35), (nu 0), (.sl 34723 0 1 3 false)])), (.bool true)])), ⟨[DsO320, DsO321], 34735⟩⟩
theorem DsT265 : Ent.check Tryz.prog known [(63, [DsE264])] 990 DsE265 = true := by kernel_rfl
theorem DsK265 {W : World} (hW : LibW W) : DsE265.Ok Tryz.prog (KG W) := Ent.ok_of mixed (known_ok hW) (Tab.ok_cons (f := 63) (Ent.ok_cons (DsK264 hW) Ent.ok_nil) Tab.ok_nil) DsT265
def DsE266 : Ent := ⟨30, (.cons (.str 30 DsS174) (.cons (.str 1 10) .nil)), ⟨[], 34749⟩, (.tup (avs [(.str 29 DsS175), (.str 0 0), (.bool true)])), ⟨[], 34761⟩⟩
theorem DsT266 : Ent.check Tryz.prog known [] 990 DsE266 = true := by kernel_rfl
theorem DsK266 {W : World} (hW : LibW W) : DsE266.Ok Tryz.prog (KG W) := Ent.ok_of mixed (known_ok hW) Tab.ok_nil DsT266
def DsE267 : Ent := ⟨63, (.cons (.str 6 55196578768250) .nil), ⟨[], 34801⟩, (nu 36), ⟨[], 34837⟩⟩
theorem DsT267 : Ent.check Tryz.prog known [] 990 DsE267 = true := by kernel_rfl
theorem DsK267 {W : World} (hW : LibW W) : DsE267.Ok Tryz.prog (KG W) := Ent.ok_of mixed (known_ok hW) Tab.ok_nil DsT267
def DsE268 : Ent := ⟨32, (.cons (.ptr 34798 0) .nil), ⟨[DsO322], 34799⟩, (.tup (avs [(.agg (avs [(nu 36), (nu 0), (.sl 34851 0 1 3 false)])), (.bool true)])), ⟨[DsO323, DsO324], 34863⟩⟩
theorem DsT268 : Ent.check Tryz.prog known [(63, [DsE267])] 990 DsE268 = true := by kernel_rfl
theorem DsK268 {W : World} (hW : LibW W) : DsE268.Ok Tryz.prog (KG W) := Ent.ok_of mixed (known_ok hW) (Tab.ok_cons (f := 63) (Ent.ok_cons (DsK267 hW) Ent.ok_nil) Tab.ok_nil) DsT268
end Go.Proofs.YtpepepkfjimoeaaGreatDoor

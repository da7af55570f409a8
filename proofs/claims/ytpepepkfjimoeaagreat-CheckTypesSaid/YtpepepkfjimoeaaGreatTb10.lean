/- Calls that were proved one by one: what the evaluator says. -/
import Derived.Test.YtpepepkfjimoeaaGreatTbO
import Derived.Test.YtpepepkfjimoeaaGreatProg
import Derived.ProofKit
import Derived.Test.YtpepepkfjimoeaaGreatVh
namespace Go.Proofs.YtpepepkfjimoeaaGreat
open Go.Proofs.YtpepepkfjimoeaaGreat.Ev
set_option maxRecDepth 100000

def TbE96 : Ent := ⟨171, (.cons (.ptr 268725 0) (.cons (nu 3) (.cons (nu 5) .nil))), ⟨[TbO590, TbO591, TbO592, TbO593, TbO594, TbO595, TbO596, TbO597, TbO598, TbO599, TbO600, TbO601, TbO602, TbO603, TbO604, TbO605, TbO606], 268822⟩, (.agg (avs [(nu 26), (nu 0), (nu 0), (nu 0), (.str 0 0), (nu 0), (.sl 269100 0 2 8 true), (nu 25)])), ⟨[TbO590, TbO591, TbO592, TbO593, TbO594, TbO595, TbO596, TbO597, TbO598, TbO599, TbO600, TbO601, TbO602, TbO603, TbO604, TbO605, TbO607, TbO608], 269149⟩⟩
theorem TbT96 : Ent.check Tryz.prog [] 990 TbE96 = true := by kernel_rfl
theorem TbK96 : TbE96.Ok Tryz.prog := Ent.ok_of mixed Tab.ok_nil TbT96
def TbE97 : Ent := ⟨87, (.cons (.ptr 268725 0) (.cons (nu 2) .nil)), ⟨[TbO590, TbO591, TbO592, TbO593, TbO594, TbO595, TbO596, TbO597, TbO598, TbO599, TbO600, TbO601, TbO602, TbO603, TbO604, TbO605, TbO609], 268796⟩, (.agg (avs [(nu 13), (.sl 269271 0 1 8 true), .nils, (nu 0), (nu 0), (nu 0), (.str 0 0), (nu 0), (nu 17)])), ⟨[TbO590, TbO591, TbO592, TbO593, TbO594, TbO595, TbO596, TbO597, TbO598, TbO599, TbO600, TbO601, TbO602, TbO603, TbO604, TbO605, TbO610, TbO608, TbO611], 269275⟩⟩
theorem TbT97 : Ent.check Tryz.prog [(171, [TbE96])] 990 TbE97 = true := by kernel_rfl
theorem TbK97 : TbE97.Ok Tryz.prog := Ent.ok_of mixed (Tab.ok_cons (f := 171) (Ent.ok_cons TbK96 Ent.ok_nil) Tab.ok_nil) TbT97
def TbE98 : Ent := ⟨23, (.cons (.ptr 268725 0) .nil), ⟨[TbO590, TbO591, TbO592, TbO593, TbO594, TbO595, TbO596, TbO597, TbO598, TbO599, TbO600, TbO601, TbO602, TbO603, TbO604, TbO605, TbO612], 268726⟩, (.tup (avs [])), ⟨[TbO590, TbO591, TbO592, TbO593, TbO594, TbO595, TbO596, TbO597, TbO598, TbO599, TbO600, TbO601, TbO602, TbO603, TbO604, TbO605, TbO613, TbO614, TbO608, TbO611, TbO615, TbO616], 269295⟩⟩
theorem TbT98 : Ent.check Tryz.prog [(87, [TbE97])] 990 TbE98 = true := by kernel_rfl
theorem TbK98 : TbE98.Ok Tryz.prog := Ent.ok_of mixed (Tab.ok_cons (f := 87) (Ent.ok_cons TbK97 Ent.ok_nil) Tab.ok_nil) TbT98
def TbE99 : Ent := ⟨17, (.cons (.agg (avs [.nils, (.sl 269294 0 1 8 false)])) .nil), ⟨[TbO614, TbO608, TbO611, TbO615, TbO616], 269297⟩, (.tup (avs [(.agg (avs [.nils, (.sl 269312 0 1 8 false)])), (.agg (avs [(nu 0), (nu 0)]))])), ⟨[TbO614, TbO608, TbO611, TbO615, TbO616, TbO617, TbO618, TbO619, TbO620, TbO621], 269700⟩⟩
theorem TbT99 : Ent.check Tryz.prog [] 990 TbE99 = true := by kernel_rfl
theorem TbK99 : TbE99.Ok Tryz.prog := Ent.ok_of mixed Tab.ok_nil TbT99
def TbE100 : Ent := ⟨22, (.cons (.str 30 864314115697145670938379783343778043725542354233795888477705161753783913) .nil), ⟨[], 269716⟩, (.tup (avs [(.sl 278570 0 16 4 false), (.agg (avs [(nu 0), (nu 0)]))])), ⟨[TbO622, TbO623, TbO624, TbO625, TbO626, TbO627, TbO628, TbO629, TbO630, TbO631, TbO632, TbO633, TbO634, TbO635, TbO636, TbO637], 278571⟩⟩
theorem TbT100 : Ent.check Tryz.prog [] 990 TbE100 = true := by kernel_rfl
theorem TbK100 : TbE100.Ok Tryz.prog := Ent.ok_of mixed Tab.ok_nil TbT100
def TbE101 : Ent := ⟨171, (.cons (.ptr 278572 0) (.cons (nu 3) (.cons (nu 5) .nil))), ⟨[TbO622, TbO623, TbO624, TbO625, TbO626, TbO627, TbO628, TbO629, TbO630, TbO631, TbO632, TbO633, TbO634, TbO635, TbO636, TbO637, TbO638], 278669⟩, (.agg (avs [(nu 26), (nu 0), (nu 0), (nu 0), (.str 0 0), (nu 0), (.sl 278947 0 2 8 true), (nu 25)])), ⟨[TbO622, TbO623, TbO624, TbO625, TbO626, TbO627, TbO628, TbO629, TbO630, TbO631, TbO632, TbO633, TbO634, TbO635, TbO636, TbO637, TbO639, TbO640], 278996⟩⟩
theorem TbT101 : Ent.check Tryz.prog [] 990 TbE101 = true := by kernel_rfl
theorem TbK101 : TbE101.Ok Tryz.prog := Ent.ok_of mixed Tab.ok_nil TbT101
def TbE102 : Ent := ⟨87, (.cons (.ptr 278572 0) (.cons (nu 2) .nil)), ⟨[TbO622, TbO623, TbO624, TbO625, TbO626, TbO627, TbO628, TbO629, TbO630, TbO631, TbO632, TbO633, TbO634, TbO635, TbO636, TbO637, TbO641], 278643⟩, (.agg (avs [(nu 13), (.sl 279118 0 1 8 true), .nils, (nu 0), (nu 0), (nu 0), (.str 0 0), (nu 0), (nu 17)])), ⟨[TbO622, TbO623, TbO624, TbO625, TbO626, TbO627, TbO628, TbO629, TbO630, TbO631, TbO632, TbO633, TbO634, TbO635, TbO636, TbO637, TbO642, TbO640, TbO643], 279122⟩⟩
theorem TbT102 : Ent.check Tryz.prog [(171, [TbE101])] 990 TbE102 = true := by kernel_rfl
theorem TbK102 : TbE102.Ok Tryz.prog := Ent.ok_of mixed (Tab.ok_cons (f := 171) (Ent.ok_cons TbK101 Ent.ok_nil) Tab.ok_nil) TbT102
def TbE103 : Ent := ⟨23, (.cons (.ptr 278572 0) .nil), ⟨[TbO622, TbO623, TbO624, TbO625, TbO626, TbO627, TbO628, TbO629, TbO630, TbO631, TbO632, TbO633, TbO634, TbO635, TbO636, TbO637, TbO644], 278573⟩, (.tup (avs [])), ⟨[TbO622, TbO623, TbO624, TbO625, TbO626, TbO627, TbO628, TbO629, TbO630, TbO631, TbO632, TbO633, TbO634, TbO635, TbO636, TbO637, TbO645, TbO646, TbO640, TbO643, TbO647, TbO648], 279142⟩⟩
theorem TbT103 : Ent.check Tryz.prog [(87, [TbE102])] 990 TbE103 = true := by kernel_rfl
theorem TbK103 : TbE103.Ok Tryz.prog := Ent.ok_of mixed (Tab.ok_cons (f := 87) (Ent.ok_cons TbK102 Ent.ok_nil) Tab.ok_nil) TbT103
def TbE104 : Ent := ⟨17, (.cons (.agg (avs [.nils, (.sl 279141 0 1 8 false)])) .nil), ⟨[TbO646, TbO640, TbO643, TbO647, TbO648], 279144⟩, (.tup (avs [(.agg (avs [.nils, .nils])), (.agg (avs [(nu 6), (nu 25)]))])), ⟨[TbO646, TbO640, TbO643, TbO647, TbO648], 279509⟩⟩
theorem TbT104 : Ent.check Tryz.prog [] 990 TbE104 = true := by kernel_rfl
theorem TbK104 : TbE104.Ok Tryz.prog := Ent.ok_of mixed Tab.ok_nil TbT104
def TbE105 : Ent := ⟨22, (.cons (.str 29 3376226601777075969171675455978189094206669398925486054337666446814825) .nil), ⟨[], 279525⟩, (.tup (avs [(.sl 289105 0 16 4 false), (.agg (avs [(nu 0), (nu 0)]))])), ⟨[TbO649, TbO650, TbO651, TbO652, TbO653, TbO654, TbO655, TbO656, TbO657, TbO658, TbO659, TbO660, TbO661, TbO662, TbO663, TbO664], 289106⟩⟩
theorem TbT105 : Ent.check Tryz.prog [] 990 TbE105 = true := by kernel_rfl
theorem TbK105 : TbE105.Ok Tryz.prog := Ent.ok_of mixed Tab.ok_nil TbT105
def TbE106 : Ent := ⟨171, (.cons (.ptr 289107 0) (.cons (nu 3) (.cons (nu 6) .nil))), ⟨[TbO649, TbO650, TbO651, TbO652, TbO653, TbO654, TbO655, TbO656, TbO657, TbO658, TbO659, TbO660, TbO661, TbO662, TbO663, TbO664, TbO665], 289205⟩, (.agg (avs [(nu 22), (nu 0), (nu 0), (nu 0), (.str 0 0), (nu 0), (.sl 289435 0 2 8 true), (nu 25)])), ⟨[TbO649, TbO650, TbO651, TbO652, TbO653, TbO654, TbO655, TbO656, TbO657, TbO658, TbO659, TbO660, TbO661, TbO662, TbO663, TbO664, TbO666, TbO667], 289484⟩⟩
theorem TbT106 : Ent.check Tryz.prog [] 990 TbE106 = true := by kernel_rfl
theorem TbK106 : TbE106.Ok Tryz.prog := Ent.ok_of mixed Tab.ok_nil TbT106
def TbE107 : Ent := ⟨87, (.cons (.ptr 289107 0) (.cons (nu 2) .nil)), ⟨[TbO649, TbO650, TbO651, TbO652, TbO653, TbO654, TbO655, TbO656, TbO657, TbO658, TbO659, TbO660, TbO661, TbO662, TbO663, TbO664, TbO668], 289178⟩, (.agg (avs [(nu 13), (.sl 289629 0 1 8 true), .nils, (nu 0), (nu 0), (nu 0), (.str 0 0), (nu 0), (nu 17)])), ⟨[TbO649, TbO650, TbO651, TbO652, TbO653, TbO654, TbO655, TbO656, TbO657, TbO658, TbO659, TbO660, TbO661, TbO662, TbO663, TbO664, TbO669, TbO667, TbO670], 289633⟩⟩
theorem TbT107 : Ent.check Tryz.prog [(171, [TbE106])] 990 TbE107 = true := by kernel_rfl
theorem TbK107 : TbE107.Ok Tryz.prog := Ent.ok_of mixed (Tab.ok_cons (f := 171) (Ent.ok_cons TbK106 Ent.ok_nil) Tab.ok_nil) TbT107
def TbE108 : Ent := ⟨23, (.cons (.ptr 289107 0) .nil), ⟨[TbO649, TbO650, TbO651, TbO652, TbO653, TbO654, TbO655, TbO656, TbO657, TbO658, TbO659, TbO660, TbO661, TbO662, TbO663, TbO664, TbO671], 289108⟩, (.tup (avs [])), ⟨[TbO649, TbO650, TbO651, TbO652, TbO653, TbO654, TbO655, TbO656, TbO657, TbO658, TbO659, TbO660, TbO661, TbO662, TbO663, TbO664, TbO672, TbO673, TbO667, TbO670, TbO674, TbO675], 289653⟩⟩
theorem TbT108 : Ent.check Tryz.prog [(87, [TbE107])] 990 TbE108 = true := by kernel_rfl
theorem TbK108 : TbE108.Ok Tryz.prog := Ent.ok_of mixed (Tab.ok_cons (f := 87) (Ent.ok_cons TbK107 Ent.ok_nil) Tab.ok_nil) TbT108
end Go.Proofs.YtpepepkfjimoeaaGreat

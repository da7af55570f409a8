/- Calls that were proved one by one: what the evaluator says. -/
import Derived.Test.YtpepepkfjimoeaaGreatTbO
import Derived.Test.YtpepepkfjimoeaaGreatProg
import Derived.ProofKit
import Derived.Test.YtpepepkfjimoeaaGreatVh
namespace Go.Proofs.YtpepepkfjimoeaaGreat
open Go.Proofs.YtpepepkfjimoeaaGreat.Ev
set_option maxRecDepth 100000

def TbE68 : Ent := ⟨22, (.cons (.str 30 864313264625867118451438002875505540519227691624722998372651009012166249) .nil), ⟨[], 177323⟩, (.tup (avs [(.sl 191835 0 19 4 false), (.agg (avs [(nu 0), (nu 0)]))])), ⟨[TbO422, TbO423, TbO424, TbO425, TbO426, TbO427, TbO428, TbO429, TbO430, TbO431, TbO432, TbO433, TbO434, TbO435, TbO436, TbO437, TbO438, TbO439, TbO440], 191836⟩⟩
theorem TbT68 : Ent.check Tryz.prog [] 990 TbE68 = true := by kernel_rfl
theorem TbK68 : TbE68.Ok Tryz.prog := Ent.ok_of mixed Tab.ok_nil TbT68
def TbE69 : Ent := ⟨171, (.cons (.ptr 191837 0) (.cons (nu 3) (.cons (nu 4) .nil))), ⟨[TbO422, TbO423, TbO424, TbO425, TbO426, TbO427, TbO428, TbO429, TbO430, TbO431, TbO432, TbO433, TbO434, TbO435, TbO436, TbO437, TbO438, TbO439, TbO440, TbO441, TbO442, TbO443], 191969⟩, (.agg (avs [(nu 35), (nu 0), (nu 0), (nu 0), (.str 1 102), (nu 0), .nils, (nu 25)])), ⟨[TbO422, TbO423, TbO424, TbO425, TbO426, TbO427, TbO428, TbO429, TbO430, TbO431, TbO432, TbO433, TbO434, TbO435, TbO436, TbO437, TbO438, TbO439, TbO440, TbO444, TbO442, TbO443], 192145⟩⟩
theorem TbT69 : Ent.check Tryz.prog [] 990 TbE69 = true := by kernel_rfl
theorem TbK69 : TbE69.Ok Tryz.prog := Ent.ok_of mixed Tab.ok_nil TbT69
def TbE70 : Ent := ⟨48, (.cons (.ptr 191837 0) (.cons (nu 1) .nil)), ⟨[TbO422, TbO423, TbO424, TbO425, TbO426, TbO427, TbO428, TbO429, TbO430, TbO431, TbO432, TbO433, TbO434, TbO435, TbO436, TbO437, TbO438, TbO439, TbO440, TbO445, TbO442, TbO443], 191943⟩, (.sl 192249 0 1 9 false), ⟨[TbO422, TbO423, TbO424, TbO425, TbO426, TbO427, TbO428, TbO429, TbO430, TbO431, TbO432, TbO433, TbO434, TbO435, TbO436, TbO437, TbO438, TbO439, TbO440, TbO446, TbO442, TbO443, TbO447, TbO448], 192254⟩⟩
theorem TbT70 : Ent.check Tryz.prog [(171, [TbE69])] 990 TbE70 = true := by kernel_rfl
theorem TbK70 : TbE70.Ok Tryz.prog := Ent.ok_of mixed (Tab.ok_cons (f := 171) (Ent.ok_cons TbK69 Ent.ok_nil) Tab.ok_nil) TbT70
def TbE71 : Ent := ⟨16, (.cons (.str 30 864313264625867118451438002875505540519227691624722998372651009012166249) .nil), ⟨[], 177321⟩, (.tup (avs [(.agg (avs [.nils, (.sl 192267 0 2 8 false)])), (.agg (avs [(nu 0), (nu 0)]))])), ⟨[TbO442, TbO449, TbO447, TbO448, TbO450], 192268⟩⟩
theorem TbT71 : Ent.check Tryz.prog [(22, [TbE68]), (48, [TbE70])] 990 TbE71 = true := by kernel_rfl
theorem TbK71 : TbE71.Ok Tryz.prog := Ent.ok_of mixed (Tab.ok_cons (f := 22) (Ent.ok_cons TbK68 Ent.ok_nil) (Tab.ok_cons (f := 48) (Ent.ok_cons TbK70 Ent.ok_nil) Tab.ok_nil)) TbT71
def TbE72 : Ent := ⟨22, (.cons (.str 31 221264196561181764074776934587984663771433842372579956548136647183463378537) .nil), ⟨[], 192524⟩, (.tup (avs [(.sl 207800 0 21 4 false), (.agg (avs [(nu 0), (nu 0)]))])), ⟨[TbO451, TbO452, TbO453, TbO454, TbO455, TbO456, TbO457, TbO458, TbO459, TbO460, TbO461, TbO462, TbO463, TbO464, TbO465, TbO466, TbO467, TbO468, TbO469, TbO470, TbO471], 207801⟩⟩
theorem TbT72 : Ent.check Tryz.prog [] 990 TbE72 = true := by kernel_rfl
theorem TbK72 : TbE72.Ok Tryz.prog := Ent.ok_of mixed Tab.ok_nil TbT72
def TbE73 : Ent := ⟨171, (.cons (.ptr 207802 0) (.cons (nu 4) (.cons (nu 3) .nil))), ⟨[TbO451, TbO452, TbO453, TbO454, TbO455, TbO456, TbO457, TbO458, TbO459, TbO460, TbO461, TbO462, TbO463, TbO464, TbO465, TbO466, TbO467, TbO468, TbO469, TbO470, TbO471, TbO472, TbO473, TbO474], 207983⟩, (.agg (avs [(nu 1), (nu 0), (nu 0), (nu 0), (.str 0 0), (nu 0), .nils, (nu 27)])), ⟨[TbO451, TbO452, TbO453, TbO454, TbO455, TbO456, TbO457, TbO458, TbO459, TbO460, TbO461, TbO462, TbO463, TbO464, TbO465, TbO466, TbO467, TbO468, TbO469, TbO470, TbO471, TbO475, TbO473, TbO474], 208176⟩⟩
theorem TbT73 : Ent.check Tryz.prog [] 990 TbE73 = true := by kernel_rfl
theorem TbK73 : TbE73.Ok Tryz.prog := Ent.ok_of mixed Tab.ok_nil TbT73
def TbE74 : Ent := ⟨171, (.cons (.ptr 207802 0) (.cons (nu 3) (.cons (nu 10) .nil))), ⟨[TbO451, TbO452, TbO453, TbO454, TbO455, TbO456, TbO457, TbO458, TbO459, TbO460, TbO461, TbO462, TbO463, TbO464, TbO465, TbO466, TbO467, TbO468, TbO469, TbO470, TbO471, TbO476, TbO473, TbO474], 207943⟩, (.agg (avs [(nu 35), (nu 0), (nu 0), (nu 0), (.str 1 102), (nu 0), (.sl 208252 0 1 8 false), (nu 25)])), ⟨[TbO451, TbO452, TbO453, TbO454, TbO455, TbO456, TbO457, TbO458, TbO459, TbO460, TbO461, TbO462, TbO463, TbO464, TbO465, TbO466, TbO467, TbO468, TbO469, TbO470, TbO471, TbO477, TbO473, TbO474, TbO478], 208262⟩⟩
theorem TbT74 : Ent.check Tryz.prog [(171, [TbE73])] 990 TbE74 = true := by kernel_rfl
theorem TbK74 : TbE74.Ok Tryz.prog := Ent.ok_of mixed (Tab.ok_cons (f := 171) (Ent.ok_cons TbK73 Ent.ok_nil) Tab.ok_nil) TbT74
def TbE75 : Ent := ⟨87, (.cons (.ptr 207802 0) (.cons (nu 2) .nil)), ⟨[TbO451, TbO452, TbO453, TbO454, TbO455, TbO456, TbO457, TbO458, TbO459, TbO460, TbO461, TbO462, TbO463, TbO464, TbO465, TbO466, TbO467, TbO468, TbO469, TbO470, TbO471, TbO476, TbO473, TbO474], 207915⟩, (.agg (avs [(nu 1), (.sl 208499 0 1 8 true), .nils, (nu 0), (nu 0), (nu 0), (.str 0 0), (nu 0), (nu 25)])), ⟨[TbO451, TbO452, TbO453, TbO454, TbO455, TbO456, TbO457, TbO458, TbO459, TbO460, TbO461, TbO462, TbO463, TbO464, TbO465, TbO466, TbO467, TbO468, TbO469, TbO470, TbO471, TbO479, TbO473, TbO474, TbO478, TbO480], 208503⟩⟩
theorem TbT75 : Ent.check Tryz.prog [(171, [TbE74])] 990 TbE75 = true := by kernel_rfl
theorem TbK75 : TbE75.Ok Tryz.prog := Ent.ok_of mixed (Tab.ok_cons (f := 171) (Ent.ok_cons TbK74 Ent.ok_nil) Tab.ok_nil) TbT75
def TbE76 : Ent := ⟨16, (.cons (.str 31 221264196561181764074776934587984663771433842372579956548136647183463378537) .nil), ⟨[], 192522⟩, (.tup (avs [(.agg (avs [.nils, (.sl 208522 0 2 8 false)])), (.agg (avs [(nu 0), (nu 0)]))])), ⟨[TbO473, TbO481, TbO478, TbO480, TbO482, TbO483], 208523⟩⟩
theorem TbT76 : Ent.check Tryz.prog [(22, [TbE72]), (87, [TbE75])] 990 TbE76 = true := by kernel_rfl
theorem TbK76 : TbE76.Ok Tryz.prog := Ent.ok_of mixed (Tab.ok_cons (f := 22) (Ent.ok_cons TbK72 Ent.ok_nil) (Tab.ok_cons (f := 87) (Ent.ok_cons TbK75 Ent.ok_nil) Tab.ok_nil)) TbT76
end Go.Proofs.YtpepepkfjimoeaaGreat

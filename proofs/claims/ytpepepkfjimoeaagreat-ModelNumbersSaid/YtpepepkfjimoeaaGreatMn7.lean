/- Calls that were proved one by one: what the evaluator says. -/
import Derived.Test.YtpepepkfjimoeaaGreatMnO
import Derived.Test.YtpepepkfjimoeaaGreatMnOx1
import Derived.Test.YtpepepkfjimoeaaGreatProg
import Derived.ProofKit
import Derived.Test.YtpepepkfjimoeaaGreatVh
namespace Go.Proofs.YtpepepkfjimoeaaGreat
open Go.Proofs.YtpepepkfjimoeaaGreat.Ev
set_option maxRecDepth 100000

def MnE66 : Ent := ⟨22, (.cons (.str 40 1044890626239363413708873551520431064944802605054120879178100381600887145914368221994625860398697) .nil), ⟨[], 142765⟩, (.tup (avs [(.sl 155136 0 21 4 false), (.agg (avs [(nu 0), (nu 0)]))])), ⟨[MnO438, MnO439, MnO440, MnO441, MnO442, MnO443, MnO444, MnO445, MnO446, MnO447, MnO448, MnO449, MnO450, MnO451, MnO452, MnO453, MnO454, MnO455, MnO456, MnO457, MnO458], 155137⟩⟩
theorem MnT66 : Ent.check Tryz.prog [] 990 MnE66 = true := by kernel_rfl
theorem MnK66 : MnE66.Ok Tryz.prog := Ent.ok_of mixed Tab.ok_nil MnT66
def MnE67 : Ent := ⟨87, (.cons (.ptr 155138 0) (.cons (nu 2) .nil)), ⟨[MnO438, MnO439, MnO440, MnO441, MnO442, MnO443, MnO444, MnO445, MnO446, MnO447, MnO448, MnO449, MnO450, MnO451, MnO452, MnO453, MnO454, MnO455, MnO456, MnO457, MnO458, MnO459], 155172⟩, (.agg (avs [(nu 2), (.sl 155486 0 1 8 true), .nils, (nu 6), (nu 0), (nu 0), (.str 1 97), (nu 0), (nu 11)])), ⟨[MnO438, MnO439, MnO440, MnO441, MnO442, MnO443, MnO444, MnO445, MnO446, MnO447, MnO448, MnO449, MnO450, MnO451, MnO452, MnO453, MnO454, MnO455, MnO456, MnO457, MnO458, MnO460, MnO461, MnO462], 155490⟩⟩
theorem MnT67 : Ent.check Tryz.prog [] 990 MnE67 = true := by kernel_rfl
theorem MnK67 : MnE67.Ok Tryz.prog := Ent.ok_of mixed Tab.ok_nil MnT67
def MnE68 : Ent := ⟨171, (.cons (.ptr 155138 0) (.cons (nu 4) (.cons (nu 5) .nil))), ⟨[MnO438, MnO439, MnO440, MnO441, MnO442, MnO443, MnO444, MnO445, MnO446, MnO447, MnO448, MnO449, MnO450, MnO451, MnO452, MnO453, MnO454, MnO455, MnO456, MnO457, MnO458, MnO463], 155563⟩, (.agg (avs [(nu 21), (nu 0), (nu 0), (nu 0), (.str 0 0), (nu 0), (.sl 155747 0 2 8 true), (nu 34)])), ⟨[MnO438, MnO439, MnO440, MnO441, MnO442, MnO443, MnO444, MnO445, MnO446, MnO447, MnO448, MnO449, MnO450, MnO451, MnO452, MnO453, MnO454, MnO455, MnO456, MnO457, MnO458, MnO464, MnO465], 155842⟩⟩
theorem MnT68 : Ent.check Tryz.prog [] 990 MnE68 = true := by kernel_rfl
theorem MnK68 : MnE68.Ok Tryz.prog := Ent.ok_of mixed Tab.ok_nil MnT68
def MnE69 : Ent := ⟨171, (.cons (.ptr 155138 0) (.cons (nu 3) (.cons (nu 3) .nil))), ⟨[MnO438, MnO439, MnO440, MnO441, MnO442, MnO443, MnO444, MnO445, MnO446, MnO447, MnO448, MnO449, MnO450, MnO451, MnO452, MnO453, MnO454, MnO455, MnO456, MnO457, MnO458, MnO460], 155514⟩, (.agg (avs [(nu 35), (nu 0), (nu 0), (nu 0), (.str 3 7632240), (nu 0), (.sl 155964 0 1 8 false), (nu 29)])), ⟨[MnO438, MnO439, MnO440, MnO441, MnO442, MnO443, MnO444, MnO445, MnO446, MnO447, MnO448, MnO449, MnO450, MnO451, MnO452, MnO453, MnO454, MnO455, MnO456, MnO457, MnO458, MnO466, MnO465, MnO467], 156135⟩⟩
theorem MnT69 : Ent.check Tryz.prog [(171, [MnE68])] 990 MnE69 = true := by kernel_rfl
theorem MnK69 : MnE69.Ok Tryz.prog := Ent.ok_of mixed (Tab.ok_cons (f := 171) (Ent.ok_cons MnK68 Ent.ok_nil) Tab.ok_nil) MnT69
def MnE70 : Ent := ⟨19, (.cons (.str 40 1044890626239363413708873551520431064944802605054120879178100381600887145914368221994625860398697) .nil), ⟨[], 142762⟩, (.tup (avs [(.agg (avs [.nils, (.sl 156287 0 1 8 false)])), (.bool true)])), ⟨[MnO468, MnO469, MnO470, MnO471, MnO472, MnO473, MnO474, MnO475], 156599⟩⟩
theorem MnT70 : Ent.check Tryz.prog [(22, [MnE66]), (87, [MnE67]), (171, [MnE69])] 990 MnE70 = true := by kernel_rfl
theorem MnK70 : MnE70.Ok Tryz.prog := Ent.ok_of mixed (Tab.ok_cons (f := 22) (Ent.ok_cons MnK66 Ent.ok_nil) (Tab.ok_cons (f := 87) (Ent.ok_cons MnK67 Ent.ok_nil) (Tab.ok_cons (f := 171) (Ent.ok_cons MnK69 Ent.ok_nil) Tab.ok_nil))) MnT70
def MnE71 : Ent := ⟨31, (.cons (.agg (avs [.nils, (.sl 156287 0 1 8 false)])) .nil), ⟨[MnO468, MnO469, MnO470, MnO471, MnO472, MnO473, MnO474, MnO475], 156602⟩, (.bool true), ⟨[MnO468, MnO469, MnO470, MnO471, MnO472, MnO473, MnO474, MnO475], 157036⟩⟩
theorem MnT71 : Ent.check Tryz.prog [] 990 MnE71 = true := by kernel_rfl
theorem MnK71 : MnE71.Ok Tryz.prog := Ent.ok_of mixed Tab.ok_nil MnT71
def MnE72 : Ent := ⟨22, (.cons (.str 43 17530356132580485348114302455437909331645883918235996828534715085512238480549591175122260165702435761769) .nil), ⟨[], 157534⟩, (.tup (avs [(.sl 170274 0 21 4 false), (.agg (avs [(nu 0), (nu 0)]))])), ⟨[MnO476, MnO477, MnO478, MnO479, MnO480, MnO481, MnO482, MnO483, MnO484, MnO485, MnO486, MnO487, MnO488, MnO489, MnO490, MnO491, MnO492, MnO493, MnO494, MnO495, MnO496], 170275⟩⟩
theorem MnT72 : Ent.check Tryz.prog [] 990 MnE72 = true := by kernel_rfl
theorem MnK72 : MnE72.Ok Tryz.prog := Ent.ok_of mixed Tab.ok_nil MnT72
end Go.Proofs.YtpepepkfjimoeaaGreat

/- Calls that were proved one by one: what the evaluator says. -/
import Derived.Test.YtpepepkfjimoeaaGreatTbO
import Derived.Test.YtpepepkfjimoeaaGreatProg
import Derived.ProofKit
import Derived.Test.YtpepepkfjimoeaaGreatVh
import Derived.Test.YtpepepkfjimoeaaGreatTb3
namespace Go.Proofs.YtpepepkfjimoeaaGreat
open Go.Proofs.YtpepepkfjimoeaaGreat.Ev
set_option maxRecDepth 100000

def TbE46 : Ent := ⟨23, (.cons (.ptr 102822 0) .nil), ⟨[TbO241, TbO242, TbO243, TbO244, TbO245, TbO246, TbO247, TbO248, TbO249, TbO250, TbO251, TbO252, TbO253, TbO259], 102823⟩, (.tup (avs [])), ⟨[TbO241, TbO242, TbO243, TbO244, TbO245, TbO246, TbO247, TbO248, TbO249, TbO250, TbO251, TbO252, TbO253, TbO260, TbO261, TbO256, TbO258, TbO262, TbO263], 103217⟩⟩
theorem TbT46 : Ent.check Tryz.prog [(87, [TbE45])] 990 TbE46 = true := by kernel_rfl
theorem TbK46 : TbE46.Ok Tryz.prog := Ent.ok_of mixed (Tab.ok_cons (f := 87) (Ent.ok_cons TbK45 Ent.ok_nil) Tab.ok_nil) TbT46
def TbE47 : Ent := ⟨22, (.cons (.str 31 221265598499380216419253943473542680112614907556023330220926464346887057001) .nil), ⟨[], 103520⟩, (.tup (avs [(.sl 120445 0 23 4 false), (.agg (avs [(nu 0), (nu 0)]))])), ⟨[TbO264, TbO265, TbO266, TbO267, TbO268, TbO269, TbO270, TbO271, TbO272, TbO273, TbO274, TbO275, TbO276, TbO277, TbO278, TbO279, TbO280, TbO281, TbO282, TbO283, TbO284, TbO285, TbO286], 120446⟩⟩
theorem TbT47 : Ent.check Tryz.prog [] 990 TbE47 = true := by kernel_rfl
theorem TbK47 : TbE47.Ok Tryz.prog := Ent.ok_of mixed Tab.ok_nil TbT47
def TbE48 : Ent := ⟨171, (.cons (.ptr 120447 0) (.cons (nu 4) (.cons (nu 3) .nil))), ⟨[TbO264, TbO265, TbO266, TbO267, TbO268, TbO269, TbO270, TbO271, TbO272, TbO273, TbO274, TbO275, TbO276, TbO277, TbO278, TbO279, TbO280, TbO281, TbO282, TbO283, TbO284, TbO285, TbO286, TbO287], 120583⟩, (.agg (avs [(nu 1), (nu 0), (nu 0), (nu 0), (.str 0 0), (nu 1), .nils, (nu 22)])), ⟨[TbO264, TbO265, TbO266, TbO267, TbO268, TbO269, TbO270, TbO271, TbO272, TbO273, TbO274, TbO275, TbO276, TbO277, TbO278, TbO279, TbO280, TbO281, TbO282, TbO283, TbO284, TbO285, TbO286, TbO288], 120776⟩⟩
theorem TbT48 : Ent.check Tryz.prog [] 990 TbE48 = true := by kernel_rfl
theorem TbK48 : TbE48.Ok Tryz.prog := Ent.ok_of mixed Tab.ok_nil TbT48
def TbE49 : Ent := ⟨171, (.cons (.ptr 120447 0) (.cons (nu 3) (.cons (nu 9) .nil))), ⟨[TbO264, TbO265, TbO266, TbO267, TbO268, TbO269, TbO270, TbO271, TbO272, TbO273, TbO274, TbO275, TbO276, TbO277, TbO278, TbO279, TbO280, TbO281, TbO282, TbO283, TbO284, TbO285, TbO286, TbO289], 120550⟩, (.agg (avs [(nu 3), (nu 0), (nu 0), (nu 0), (.str 0 0), (nu 0), (.sl 120856 0 2 8 true), (nu 21)])), ⟨[TbO264, TbO265, TbO266, TbO267, TbO268, TbO269, TbO270, TbO271, TbO272, TbO273, TbO274, TbO275, TbO276, TbO277, TbO278, TbO279, TbO280, TbO281, TbO282, TbO283, TbO284, TbO285, TbO286, TbO290, TbO291], 120884⟩⟩
theorem TbT49 : Ent.check Tryz.prog [(171, [TbE48])] 990 TbE49 = true := by kernel_rfl
theorem TbK49 : TbE49.Ok Tryz.prog := Ent.ok_of mixed (Tab.ok_cons (f := 171) (Ent.ok_cons TbK48 Ent.ok_nil) Tab.ok_nil) TbT49
def TbE50 : Ent := ⟨171, (.cons (.ptr 120447 0) (.cons (nu 5) (.cons (nu 3) .nil))), ⟨[TbO264, TbO265, TbO266, TbO267, TbO268, TbO269, TbO270, TbO271, TbO272, TbO273, TbO274, TbO275, TbO276, TbO277, TbO278, TbO279, TbO280, TbO281, TbO282, TbO283, TbO284, TbO285, TbO286, TbO292], 121142⟩, (.agg (avs [(nu 1), (nu 0), (nu 0), (nu 0), (.str 0 0), (nu 0), .nils, (nu 27)])), ⟨[TbO264, TbO265, TbO266, TbO267, TbO268, TbO269, TbO270, TbO271, TbO272, TbO273, TbO274, TbO275, TbO276, TbO277, TbO278, TbO279, TbO280, TbO281, TbO282, TbO283, TbO284, TbO285, TbO286, TbO293], 121335⟩⟩
theorem TbT50 : Ent.check Tryz.prog [] 990 TbE50 = true := by kernel_rfl
theorem TbK50 : TbE50.Ok Tryz.prog := Ent.ok_of mixed Tab.ok_nil TbT50
def TbE51 : Ent := ⟨171, (.cons (.ptr 120447 0) (.cons (nu 4) (.cons (nu 9) .nil))), ⟨[TbO264, TbO265, TbO266, TbO267, TbO268, TbO269, TbO270, TbO271, TbO272, TbO273, TbO274, TbO275, TbO276, TbO277, TbO278, TbO279, TbO280, TbO281, TbO282, TbO283, TbO284, TbO285, TbO286, TbO294], 121109⟩, (.agg (avs [(nu 3), (nu 0), (nu 0), (nu 0), (.str 0 0), (nu 0), (.sl 121415 0 2 8 true), (nu 26)])), ⟨[TbO264, TbO265, TbO266, TbO267, TbO268, TbO269, TbO270, TbO271, TbO272, TbO273, TbO274, TbO275, TbO276, TbO277, TbO278, TbO279, TbO280, TbO281, TbO282, TbO283, TbO284, TbO285, TbO286, TbO295, TbO296], 121443⟩⟩
theorem TbT51 : Ent.check Tryz.prog [(171, [TbE50])] 990 TbE51 = true := by kernel_rfl
theorem TbK51 : TbE51.Ok Tryz.prog := Ent.ok_of mixed (Tab.ok_cons (f := 171) (Ent.ok_cons TbK50 Ent.ok_nil) Tab.ok_nil) TbT51
def TbE52 : Ent := ⟨114, (.cons (.ptr 120447 0) (.cons (nu 3) .nil)), ⟨[TbO264, TbO265, TbO266, TbO267, TbO268, TbO269, TbO270, TbO271, TbO272, TbO273, TbO274, TbO275, TbO276, TbO277, TbO278, TbO279, TbO280, TbO281, TbO282, TbO283, TbO284, TbO285, TbO286, TbO289], 120539⟩, (.agg (avs [(nu 34), (nu 0), (nu 0), (nu 0), (.str 0 0), (nu 0), (.sl 121663 0 2 8 true), (nu 24)])), ⟨[TbO264, TbO265, TbO266, TbO267, TbO268, TbO269, TbO270, TbO271, TbO272, TbO273, TbO274, TbO275, TbO276, TbO277, TbO278, TbO279, TbO280, TbO281, TbO282, TbO283, TbO284, TbO285, TbO286, TbO295, TbO291, TbO296, TbO297], 121670⟩⟩
theorem TbT52 : Ent.check Tryz.prog [(171, [TbE49, TbE51])] 990 TbE52 = true := by kernel_rfl
theorem TbK52 : TbE52.Ok Tryz.prog := Ent.ok_of mixed (Tab.ok_cons (f := 171) (Ent.ok_cons TbK49 (Ent.ok_cons TbK51 Ent.ok_nil)) Tab.ok_nil) TbT52
def TbE53 : Ent := ⟨48, (.cons (.ptr 120447 0) (.cons (nu 1) .nil)), ⟨[TbO264, TbO265, TbO266, TbO267, TbO268, TbO269, TbO270, TbO271, TbO272, TbO273, TbO274, TbO275, TbO276, TbO277, TbO278, TbO279, TbO280, TbO281, TbO282, TbO283, TbO284, TbO285, TbO286, TbO298], 120477⟩, (.sl 121675 0 2 9 false), ⟨[TbO264, TbO265, TbO266, TbO267, TbO268, TbO269, TbO270, TbO271, TbO272, TbO273, TbO274, TbO275, TbO276, TbO277, TbO278, TbO279, TbO280, TbO281, TbO282, TbO283, TbO284, TbO285, TbO286, TbO299, TbO300, TbO291, TbO296, TbO297, TbO301, TbO302], 121680⟩⟩
theorem TbT53 : Ent.check Tryz.prog [(114, [TbE52])] 990 TbE53 = true := by kernel_rfl
theorem TbK53 : TbE53.Ok Tryz.prog := Ent.ok_of mixed (Tab.ok_cons (f := 114) (Ent.ok_cons TbK52 Ent.ok_nil) Tab.ok_nil) TbT53
def TbE54 : Ent := ⟨67, (.cons (.ptr 121793 0) (.cons (.sl 121740 0 2 9 false) .nil)), ⟨[TbO303, TbO304, TbO305, TbO306, TbO307, TbO308, TbO309, TbO310, TbO311, TbO312], 121815⟩, (.tup (avs [])), ⟨[TbO313, TbO304, TbO314, TbO315, TbO316, TbO317, TbO318, TbO319, TbO311, TbO312, TbO320], 122083⟩⟩
theorem TbT54 : Ent.check Tryz.prog [] 990 TbE54 = true := by kernel_rfl
theorem TbK54 : TbE54.Ok Tryz.prog := Ent.ok_of mixed Tab.ok_nil TbT54
end Go.Proofs.YtpepepkfjimoeaaGreat

/- Calls that were proved one by one: what the evaluator says. -/
import Derived.Test.YtpepepkfjimoeaaGreatMnO
import Derived.Test.YtpepepkfjimoeaaGreatMnOx1
import Derived.Test.YtpepepkfjimoeaaGreatProg
import Derived.ProofKit
import Derived.Test.YtpepepkfjimoeaaGreatVh
import Derived.Test.YtpepepkfjimoeaaGreatMn3
namespace Go.Proofs.YtpepepkfjimoeaaGreat
open Go.Proofs.YtpepepkfjimoeaaGreat.Ev
set_option maxRecDepth 100000

def MnE36 : Ent := ⟨171, (.cons (.ptr 90632 0) (.cons (nu 3) (.cons (nu 2) .nil))), ⟨[MnO166, MnO167, MnO168, MnO169, MnO170, MnO171, MnO172, MnO173, MnO174, MnO175, MnO176, MnO177, MnO178, MnO179, MnO180, MnO181, MnO182, MnO183, MnO184, MnO185, MnO186, MnO187, MnO188, MnO189, MnO190, MnO191, MnO192, MnO193, MnO194, MnO195, MnO213], 92044⟩, (.agg (avs [(nu 35), (nu 0), (nu 0), (nu 0), (.str 3 7632240), (nu 0), (.sl 92453 0 1 8 false), (nu 30)])), ⟨[MnO166, MnO167, MnO168, MnO169, MnO170, MnO171, MnO172, MnO173, MnO174, MnO175, MnO176, MnO177, MnO178, MnO179, MnO180, MnO181, MnO182, MnO183, MnO184, MnO185, MnO186, MnO187, MnO188, MnO189, MnO190, MnO191, MnO192, MnO193, MnO194, MnO195, MnO214, MnO211, MnO212, MnO215], 92647⟩⟩
theorem MnT36 : Ent.check Tryz.prog [(171, [MnE35])] 990 MnE36 = true := by kernel_rfl
theorem MnK36 : MnE36.Ok Tryz.prog := Ent.ok_of mixed (Tab.ok_cons (f := 171) (Ent.ok_cons MnK35 Ent.ok_nil) Tab.ok_nil) MnT36
def MnE37 : Ent := ⟨48, (.cons (.ptr 90632 0) (.cons (nu 1) .nil)), ⟨[MnO166, MnO167, MnO168, MnO169, MnO170, MnO171, MnO172, MnO173, MnO174, MnO175, MnO176, MnO177, MnO178, MnO179, MnO180, MnO181, MnO182, MnO183, MnO184, MnO185, MnO186, MnO187, MnO188, MnO189, MnO190, MnO191, MnO192, MnO193, MnO194, MnO195, MnO216], 90662⟩, (.sl 92705 0 3 9 false), ⟨[MnO166, MnO167, MnO168, MnO169, MnO170, MnO171, MnO172, MnO173, MnO174, MnO175, MnO176, MnO177, MnO178, MnO179, MnO180, MnO181, MnO182, MnO183, MnO184, MnO185, MnO186, MnO187, MnO188, MnO189, MnO190, MnO191, MnO192, MnO193, MnO194, MnO195, MnO217, MnO198, MnO201, MnO218, MnO219, MnO204, MnO205, MnO208, MnO220, MnO221, MnO211, MnO212, MnO215, MnO222, MnO223], 92710⟩⟩
theorem MnT37 : Ent.check Tryz.prog [(171, [MnE32, MnE34, MnE36])] 990 MnE37 = true := by kernel_rfl
theorem MnK37 : MnE37.Ok Tryz.prog := Ent.ok_of mixed (Tab.ok_cons (f := 171) (Ent.ok_cons MnK32 (Ent.ok_cons MnK34 (Ent.ok_cons MnK36 Ent.ok_nil))) Tab.ok_nil) MnT37
def MnE38 : Ent := ⟨105, (.cons (.ptr 92822 0) (.cons (.sl 92819 0 3 9 false) .nil)), ⟨[MnO224, MnO225, MnO226, MnO227, MnO228, MnO229, MnO230, MnO231, MnO232, MnO233, MnO234, MnO235, MnO236, MnO237, MnO238, MnO239, MnO240, MnO241, MnO242, MnO243], 92850⟩, (.tup (avs [])), ⟨[MnO244, MnO245, MnO246, MnO228, MnO247, MnO248, MnO249, MnO250, MnO234, MnO251, MnO252, MnO253, MnO254, MnO240, MnO241, MnO255, MnO243], 93205⟩⟩
theorem MnT38 : Ent.check Tryz.prog [] 990 MnE38 = true := by kernel_rfl
theorem MnK38 : MnE38.Ok Tryz.prog := Ent.ok_of mixed Tab.ok_nil MnT38
def MnE39 : Ent := ⟨67, (.cons (.ptr 93361 0) (.cons (.sl 93272 0 3 9 false) .nil)), ⟨[MnO256, MnO257, MnO258, MnO259, MnO260, MnO261, MnO262, MnO263, MnO264, MnO265, MnO266, MnO267, MnO268, MnO269, MnO270, MnO271, MnO272], 93383⟩, (.tup (avs [])), ⟨[MnO256, MnO257, MnO258, MnO259, MnO260, MnO261, MnO262, MnO263, MnO264, MnO265, MnO266, MnO267, MnO268, MnO273, MnO270, MnO271, MnO272], 93717⟩⟩
theorem MnT39 : Ent.check Tryz.prog [] 990 MnE39 = true := by kernel_rfl
theorem MnK39 : MnE39.Ok Tryz.prog := Ent.ok_of mixed Tab.ok_nil MnT39
def MnE40 : Ent := ⟨31, (.cons (.agg (avs [.nils, (.sl 92821 0 1 8 false)])) .nil), ⟨[MnO244, MnO245, MnO246, MnO228, MnO247, MnO248, MnO249, MnO250, MnO234, MnO251, MnO252, MnO253, MnO254, MnO240, MnO241], 93227⟩, (.bool true), ⟨[MnO244, MnO245, MnO246, MnO228, MnO247, MnO248, MnO249, MnO250, MnO234, MnO251, MnO252, MnO253, MnO254, MnO240, MnO241], 93805⟩⟩
theorem MnT40 : Ent.check Tryz.prog [(67, [MnE39])] 990 MnE40 = true := by kernel_rfl
theorem MnK40 : MnE40.Ok Tryz.prog := Ent.ok_of mixed (Tab.ok_cons (f := 67) (Ent.ok_cons MnK39 Ent.ok_nil) Tab.ok_nil) MnT40
def MnE41 : Ent := ⟨82, (.cons (.ptr 93805 0) (.cons (.sl 92819 0 3 9 false) .nil)), ⟨[MnO244, MnO245, MnO246, MnO228, MnO247, MnO248, MnO249, MnO250, MnO234, MnO251, MnO252, MnO253, MnO254, MnO240, MnO241, MnO274, MnO275, MnO276], 93838⟩, (nu 0), ⟨[MnO244, MnO245, MnO246, MnO228, MnO247, MnO248, MnO249, MnO250, MnO234, MnO251, MnO252, MnO253, MnO254, MnO240, MnO241, MnO277, MnO275, MnO276, MnO278, MnO279, MnO280], 94381⟩⟩
theorem MnT41 : Ent.check Tryz.prog [] 990 MnE41 = true := by kernel_rfl
theorem MnK41 : MnE41.Ok Tryz.prog := Ent.ok_of mixed Tab.ok_nil MnT41
def MnE42 : Ent := ⟨22, (.cons (.str 30 864313267811998400061063613230854444634435675656374537360815103235354217) .nil), ⟨[], 94491⟩, (.tup (avs [(.sl 108990 0 21 4 false), (.agg (avs [(nu 0), (nu 0)]))])), ⟨[MnO281, MnO282, MnO283, MnO284, MnO285, MnO286, MnO287, MnO288, MnO289, MnO290, MnO291, MnO292, MnO293, MnO294, MnO295, MnO296, MnO297, MnO298, MnO299, MnO300, MnO301], 108991⟩⟩
theorem MnT42 : Ent.check Tryz.prog [] 990 MnE42 = true := by kernel_rfl
theorem MnK42 : MnE42.Ok Tryz.prog := Ent.ok_of mixed Tab.ok_nil MnT42
def MnE43 : Ent := ⟨171, (.cons (.ptr 108992 0) (.cons (nu 4) (.cons (nu 2) .nil))), ⟨[MnO281, MnO282, MnO283, MnO284, MnO285, MnO286, MnO287, MnO288, MnO289, MnO290, MnO291, MnO292, MnO293, MnO294, MnO295, MnO296, MnO297, MnO298, MnO299, MnO300, MnO301, MnO302], 109093⟩, (.agg (avs [(nu 16), (nu 0), (nu 0), (nu 0), (.str 0 0), (nu 0), (.sl 109184 0 2 8 true), (nu 16)])), ⟨[MnO281, MnO282, MnO283, MnO284, MnO285, MnO286, MnO287, MnO288, MnO289, MnO290, MnO291, MnO292, MnO293, MnO294, MnO295, MnO296, MnO297, MnO298, MnO299, MnO300, MnO301, MnO303, MnO304], 109394⟩⟩
theorem MnT43 : Ent.check Tryz.prog [] 990 MnE43 = true := by kernel_rfl
theorem MnK43 : MnE43.Ok Tryz.prog := Ent.ok_of mixed Tab.ok_nil MnT43
def MnE44 : Ent := ⟨171, (.cons (.ptr 108992 0) (.cons (nu 3) (.cons (nu 0) .nil))), ⟨[MnO281, MnO282, MnO283, MnO284, MnO285, MnO286, MnO287, MnO288, MnO289, MnO290, MnO291, MnO292, MnO293, MnO294, MnO295, MnO296, MnO297, MnO298, MnO299, MnO300, MnO301, MnO305], 109044⟩, (.agg (avs [(nu 35), (nu 0), (nu 0), (nu 0), (.str 3 7632240), (nu 0), (.sl 109447 0 1 8 false), (nu 11)])), ⟨[MnO281, MnO282, MnO283, MnO284, MnO285, MnO286, MnO287, MnO288, MnO289, MnO290, MnO291, MnO292, MnO293, MnO294, MnO295, MnO296, MnO297, MnO298, MnO299, MnO300, MnO301, MnO306, MnO304, MnO307], 109687⟩⟩
theorem MnT44 : Ent.check Tryz.prog [(171, [MnE43])] 990 MnE44 = true := by kernel_rfl
theorem MnK44 : MnE44.Ok Tryz.prog := Ent.ok_of mixed (Tab.ok_cons (f := 171) (Ent.ok_cons MnK43 Ent.ok_nil) Tab.ok_nil) MnT44
def MnE45 : Ent := ⟨171, (.cons (.ptr 108992 0) (.cons (nu 4) (.cons (nu 2) .nil))), ⟨[MnO281, MnO282, MnO283, MnO284, MnO285, MnO286, MnO287, MnO288, MnO289, MnO290, MnO291, MnO292, MnO293, MnO294, MnO295, MnO296, MnO297, MnO298, MnO299, MnO300, MnO301, MnO308], 109768⟩, (.agg (avs [(nu 17), (nu 0), (nu 0), (nu 0), (.str 0 0), (nu 0), (.sl 109859 0 2 8 true), (nu 25)])), ⟨[MnO281, MnO282, MnO283, MnO284, MnO285, MnO286, MnO287, MnO288, MnO289, MnO290, MnO291, MnO292, MnO293, MnO294, MnO295, MnO296, MnO297, MnO298, MnO299, MnO300, MnO301, MnO309, MnO310], 110069⟩⟩
theorem MnT45 : Ent.check Tryz.prog [] 990 MnE45 = true := by kernel_rfl
theorem MnK45 : MnE45.Ok Tryz.prog := Ent.ok_of mixed Tab.ok_nil MnT45
def MnE46 : Ent := ⟨171, (.cons (.ptr 108992 0) (.cons (nu 3) (.cons (nu 0) .nil))), ⟨[MnO281, MnO282, MnO283, MnO284, MnO285, MnO286, MnO287, MnO288, MnO289, MnO290, MnO291, MnO292, MnO293, MnO294, MnO295, MnO296, MnO297, MnO298, MnO299, MnO300, MnO301, MnO311], 109719⟩, (.agg (avs [(nu 35), (nu 0), (nu 0), (nu 0), (.str 3 7632240), (nu 0), (.sl 110122 0 1 8 false), (nu 20)])), ⟨[MnO281, MnO282, MnO283, MnO284, MnO285, MnO286, MnO287, MnO288, MnO289, MnO290, MnO291, MnO292, MnO293, MnO294, MnO295, MnO296, MnO297, MnO298, MnO299, MnO300, MnO301, MnO312, MnO310, MnO313], 110362⟩⟩
theorem MnT46 : Ent.check Tryz.prog [(171, [MnE45])] 990 MnE46 = true := by kernel_rfl
theorem MnK46 : MnE46.Ok Tryz.prog := Ent.ok_of mixed (Tab.ok_cons (f := 171) (Ent.ok_cons MnK45 Ent.ok_nil) Tab.ok_nil) MnT46
def MnE47 : Ent := ⟨23, (.cons (.ptr 108992 0) .nil), ⟨[MnO281, MnO282, MnO283, MnO284, MnO285, MnO286, MnO287, MnO288, MnO289, MnO290, MnO291, MnO292, MnO293, MnO294, MnO295, MnO296, MnO297, MnO298, MnO299, MnO300, MnO301, MnO314], 108993⟩, (.tup (avs [])), ⟨[MnO281, MnO282, MnO283, MnO284, MnO285, MnO286, MnO287, MnO288, MnO289, MnO290, MnO291, MnO292, MnO293, MnO294, MnO295, MnO296, MnO297, MnO298, MnO299, MnO300, MnO301, MnO315, MnO304, MnO307, MnO316, MnO317, MnO310, MnO313, MnO318, MnO319, MnO320], 110393⟩⟩
theorem MnT47 : Ent.check Tryz.prog [(171, [MnE44, MnE46])] 990 MnE47 = true := by kernel_rfl
theorem MnK47 : MnE47.Ok Tryz.prog := Ent.ok_of mixed (Tab.ok_cons (f := 171) (Ent.ok_cons MnK44 (Ent.ok_cons MnK46 Ent.ok_nil)) Tab.ok_nil) MnT47
end Go.Proofs.YtpepepkfjimoeaaGreat

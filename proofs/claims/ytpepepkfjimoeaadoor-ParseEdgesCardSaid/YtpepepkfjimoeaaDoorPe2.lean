/- Calls that were proved one by one: what the evaluator says. -/
import Derived.Test.YtpepepkfjimoeaaDoorPeO
import Derived.Test.YtpepepkfjimoeaaDoorPeOx1
import Derived.Test.YtpepepkfjimoeaaDoorProg
import Derived.ProofKit
import Derived.Test.YtpepepkfjimoeaaDoorVy
namespace Go.Proofs.YtpepepkfjimoeaaDoor
open Go.Proofs.YtpepepkfjimoeaaDoor.Ev
set_option maxRecDepth 100000

def PeE33 : Ent := ⟨6, (.cons (.str 38 15975594740021794564403709330780453248338176305783011928597355247632749754543935294371294825) .nil), ⟨[], 20520⟩, (.tup (avs [(.sl 20710 0 21 4 false), (.agg (avs [(nu 0), (nu 0)]))])), ⟨[PeO243, PeO244, PeO245, PeO246, PeO247, PeO248, PeO249, PeO250, PeO251, PeO252, PeO253, PeO254, PeO255, PeO256, PeO257, PeO258, PeO259, PeO260, PeO261, PeO262, PeO263], 20711⟩⟩
theorem PeT33 : Ent.check Tryd.prog known [] 990 PeE33 = true := by kernel_rfl
theorem PeK33 {W : World} (hW : LibW W) : PeE33.Ok Tryd.prog (KG W) := Ent.ok_of mixed (known_ok hW) Tab.ok_nil PeT33
def PeE34 : Ent := ⟨9, (.cons (.ptr 20712 0) (.cons (.ptr 20713 0) .nil)), ⟨[PeO243, PeO244, PeO245, PeO246, PeO247, PeO248, PeO249, PeO250, PeO251, PeO252, PeO253, PeO254, PeO255, PeO256, PeO257, PeO258, PeO259, PeO260, PeO261, PeO262, PeO263, PeO264, PeO265], 20726⟩, (.tup (avs [])), ⟨[PeO243, PeO244, PeO245, PeO246, PeO247, PeO248, PeO249, PeO250, PeO251, PeO252, PeO253, PeO254, PeO255, PeO256, PeO257, PeO258, PeO259, PeO260, PeO261, PeO262, PeO263, PeO266, PeO267, PeO268, PeO269, PeO270, PeO271, PeO272], 21644⟩⟩
theorem PeT34 : Ent.check Tryd.prog known [] 990 PeE34 = true := by kernel_rfl
theorem PeK34 {W : World} (hW : LibW W) : PeE34.Ok Tryd.prog (KG W) := Ent.ok_of mixed (known_ok hW) Tab.ok_nil PeT34
def PeE35 : Ent := ⟨6, (.cons (.str 89 10560761953226919333475100730366818871803313145344574689678315146049884954113034065318208076840162058474802482140389358617031659508200753614865962273106614855723072308855008379919993341812724543070563986340601687657) .nil), ⟨[], 21672⟩, (.tup (avs [(.sl 22052 0 55 4 false), (.agg (avs [(nu 0), (nu 0)]))])), ⟨[PeO273, PeO274, PeO275, PeO276, PeO277, PeO278, PeO279, PeO280, PeO281, PeO282, PeO283, PeO284, PeO285, PeO286, PeO287, PeO288, PeO289, PeO290, PeO291, PeO292, PeO293, PeO294, PeO295, PeO296, PeO297, PeO298, PeO299, PeO300, PeO301, PeO302, PeO303, PeO304, PeO305, PeO306, PeO307, PeO308, PeO309, PeO310, PeO311, PeO312, PeO313, PeO314, PeO315, PeO316, PeO317, PeO318, PeO319, PeO320, PeO321, PeO322, PeO323, PeO324, PeO325, PeO326, PeO327], 22053⟩⟩
theorem PeT35 : Ent.check Tryd.prog known [] 990 PeE35 = true := by kernel_rfl
theorem PeK35 {W : World} (hW : LibW W) : PeE35.Ok Tryd.prog (KG W) := Ent.ok_of mixed (known_ok hW) Tab.ok_nil PeT35
def PeE36 : Ent := ⟨4, (.cons (.str 89 10560761953226919333475100730366818871803313145344574689678315146049884954113034065318208076840162058474802482140389358617031659508200753614865962273106614855723072308855008379919993341812724543070563986340601687657) .nil), ⟨[], 21670⟩, (.tup (avs [(.agg (avs [.nils, .nils])), (.agg (avs [(nu 2), (nu 84)]))])), ⟨[], 24908⟩⟩
theorem PeT36 : Ent.check Tryd.prog known [(6, [PeE35])] 990 PeE36 = true := by kernel_rfl
theorem PeK36 {W : World} (hW : LibW W) : PeE36.Ok Tryd.prog (KG W) := Ent.ok_of mixed (known_ok hW) (Tab.ok_cons (f := 6) (Ent.ok_cons (PeK35 hW) Ent.ok_nil) Tab.ok_nil) PeT36
def PeE37 : Ent := ⟨6, (.cons (.str 118 34505088266250942516593545286408387806353978047279963715954361588500419148380243167492099941175579155418404136234336049431493186006292327382848943788486798490795957886524435214449355943974414740910772976857471393653996341138026151645661073300933184887958189173527372446898923517537897) .nil), ⟨[], 24929⟩, (.tup (avs [(.sl 25441 0 52 4 false), (.agg (avs [(nu 0), (nu 0)]))])), ⟨[PeO328, PeO329, PeO330, PeO331, PeO332, PeO333, PeO334, PeO335, PeO336, PeO337, PeO338, PeO339, PeO340, PeO341, PeO342, PeO343, PeO344, PeO345, PeO346, PeO347, PeO348, PeO349, PeO350, PeO351, PeO352, PeO353, PeO354, PeO355, PeO356, PeO357, PeO358, PeO359, PeO360, PeO361, PeO362, PeO363, PeO364, PeO365, PeO366, PeO367, PeO368, PeO369, PeO370, PeO371, PeO372, PeO373, PeO374, PeO375, PeO376, PeO377, PeO378, PeO379], 25442⟩⟩
theorem PeT37 : Ent.check Tryd.prog known [] 990 PeE37 = true := by kernel_rfl
theorem PeK37 {W : World} (hW : LibW W) : PeE37.Ok Tryd.prog (KG W) := Ent.ok_of mixed (known_ok hW) Tab.ok_nil PeT37
def PeE38 : Ent := ⟨4, (.cons (.str 118 34505088266250942516593545286408387806353978047279963715954361588500419148380243167492099941175579155418404136234336049431493186006292327382848943788486798490795957886524435214449355943974414740910772976857471393653996341138026151645661073300933184887958189173527372446898923517537897) .nil), ⟨[], 24927⟩, (.tup (avs [(.agg (avs [.nils, .nils])), (.agg (avs [(nu 2), (nu 116)]))])), ⟨[], 29042⟩⟩
theorem PeT38 : Ent.check Tryd.prog known [(6, [PeE37])] 990 PeE38 = true := by kernel_rfl
theorem PeK38 {W : World} (hW : LibW W) : PeE38.Ok Tryd.prog (KG W) := Ent.ok_of mixed (known_ok hW) (Tab.ok_cons (f := 6) (Ent.ok_cons (PeK37 hW) Ent.ok_nil) Tab.ok_nil) PeT38
def PeE39 : Ent := ⟨6, (.cons (.str 17 20243078851349376950828192921461584064105) .nil), ⟨[], 29801⟩, (.tup (avs [(.sl 29881 0 15 4 false), (.agg (avs [(nu 0), (nu 0)]))])), ⟨[PeO380, PeO381, PeO382, PeO383, PeO384, PeO385, PeO386, PeO387, PeO388, PeO389, PeO390, PeO391, PeO392, PeO393, PeO394], 29882⟩⟩
theorem PeT39 : Ent.check Tryd.prog known [] 990 PeE39 = true := by kernel_rfl
theorem PeK39 {W : World} (hW : LibW W) : PeE39.Ok Tryd.prog (KG W) := Ent.ok_of mixed (known_ok hW) Tab.ok_nil PeT39
def PeE40 : Ent := ⟨6, (.cons (.str 50 1263195251874736303865072191435775118460055315283274069427348501101811310659124926910574307282028961202575379478867111529) .nil), ⟨[], 30501⟩, (.tup (avs [(.sl 30707 0 45 4 false), (.agg (avs [(nu 0), (nu 0)]))])), ⟨[PeO395, PeO396, PeO397, PeO398, PeO399, PeO400, PeO401, PeO402, PeO403, PeO404, PeO405, PeO406, PeO407, PeO408, PeO409, PeO410, PeO411, PeO412, PeO413, PeO414, PeO415, PeO416, PeO417, PeO418, PeO419, PeO420, PeO421, PeO422, PeO423, PeO424, PeO425, PeO426, PeO427, PeO428, PeO429, PeO430, PeO431, PeO432, PeO433, PeO434, PeO435, PeO436, PeO437, PeO438, PeO439], 30708⟩⟩
theorem PeT40 : Ent.check Tryd.prog known [] 990 PeE40 = true := by kernel_rfl
theorem PeK40 {W : World} (hW : LibW W) : PeE40.Ok Tryd.prog (KG W) := Ent.ok_of mixed (known_ok hW) Tab.ok_nil PeT40
end Go.Proofs.YtpepepkfjimoeaaDoor

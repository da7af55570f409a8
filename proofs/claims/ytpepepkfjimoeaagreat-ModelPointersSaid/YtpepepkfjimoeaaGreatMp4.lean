/- Calls that were proved one by one: what the evaluator says. -/
import Derived.Test.YtpepepkfjimoeaaGreatMpO
import Derived.Test.YtpepepkfjimoeaaGreatMpOx1
import Derived.Test.YtpepepkfjimoeaaGreatProg
import Derived.ProofKit
import Derived.Test.YtpepepkfjimoeaaGreatVh
namespace Go.Proofs.YtpepepkfjimoeaaGreat
open Go.Proofs.YtpepepkfjimoeaaGreat.Ev
set_option maxRecDepth 100000

def MpE33 : Ent := ⟨22, (.cons (.str 55 1388897901986362806850620706123060267605739923337782316097251388586567665635429394927910227192072209300763357542193508647241377934953) .nil), ⟨[], 77715⟩, (.tup (avs [(.sl 110426 0 43 4 false), (.agg (avs [(nu 0), (nu 0)]))])), ⟨[MpO331, MpO332, MpO333, MpO334, MpO335, MpO336, MpO337, MpO338, MpO339, MpO340, MpO341, MpO342, MpO343, MpO344, MpO345, MpO346, MpO347, MpO348, MpO349, MpO350, MpO351, MpO352, MpO353, MpO354, MpO355, MpO356, MpO357, MpO358, MpO359, MpO360, MpO361, MpO362, MpO363, MpO364, MpO365, MpO366, MpO367, MpO368, MpO369, MpO370, MpO371, MpO372, MpO373], 110427⟩⟩
theorem MpT33 : Ent.check Tryz.prog [] 990 MpE33 = true := by kernel_rfl
theorem MpK33 : MpE33.Ok Tryz.prog := Ent.ok_of mixed Tab.ok_nil MpT33
def MpE34 : Ent := ⟨222, (.cons (.ptr 110428 0) (.cons (nu 5) .nil)), ⟨[MpO331, MpO332, MpO333, MpO334, MpO335, MpO336, MpO337, MpO338, MpO339, MpO340, MpO341, MpO342, MpO343, MpO344, MpO345, MpO346, MpO347, MpO348, MpO349, MpO350, MpO351, MpO352, MpO353, MpO354, MpO355, MpO356, MpO357, MpO358, MpO359, MpO360, MpO361, MpO362, MpO363, MpO364, MpO365, MpO366, MpO367, MpO368, MpO369, MpO370, MpO371, MpO372, MpO373, MpO374], 110604⟩, (.agg (avs [(nu 3), (nu 0), (nu 0), (nu 0), (.str 0 0), (nu 0), (.sl 110895 0 2 8 true), (nu 26)])), ⟨[MpO331, MpO332, MpO333, MpO334, MpO335, MpO336, MpO337, MpO338, MpO339, MpO340, MpO341, MpO342, MpO343, MpO344, MpO345, MpO346, MpO347, MpO348, MpO349, MpO350, MpO351, MpO352, MpO353, MpO354, MpO355, MpO356, MpO357, MpO358, MpO359, MpO360, MpO361, MpO362, MpO363, MpO364, MpO365, MpO366, MpO367, MpO368, MpO369, MpO370, MpO371, MpO372, MpO373, MpO375, MpO376], 110900⟩⟩
theorem MpT34 : Ent.check Tryz.prog [] 990 MpE34 = true := by kernel_rfl
theorem MpK34 : MpE34.Ok Tryz.prog := Ent.ok_of mixed Tab.ok_nil MpT34
def MpE35 : Ent := ⟨222, (.cons (.ptr 110428 0) (.cons (nu 5) .nil)), ⟨[MpO331, MpO332, MpO333, MpO334, MpO335, MpO336, MpO337, MpO338, MpO339, MpO340, MpO341, MpO342, MpO343, MpO344, MpO345, MpO346, MpO347, MpO348, MpO349, MpO350, MpO351, MpO352, MpO353, MpO354, MpO355, MpO356, MpO357, MpO358, MpO359, MpO360, MpO361, MpO362, MpO363, MpO364, MpO365, MpO366, MpO367, MpO368, MpO369, MpO370, MpO371, MpO372, MpO373, MpO377], 110976⟩, (.agg (avs [(nu 3), (nu 0), (nu 0), (nu 0), (.str 0 0), (nu 0), (.sl 111267 0 2 8 true), (nu 32)])), ⟨[MpO331, MpO332, MpO333, MpO334, MpO335, MpO336, MpO337, MpO338, MpO339, MpO340, MpO341, MpO342, MpO343, MpO344, MpO345, MpO346, MpO347, MpO348, MpO349, MpO350, MpO351, MpO352, MpO353, MpO354, MpO355, MpO356, MpO357, MpO358, MpO359, MpO360, MpO361, MpO362, MpO363, MpO364, MpO365, MpO366, MpO367, MpO368, MpO369, MpO370, MpO371, MpO372, MpO373, MpO378, MpO379], 111272⟩⟩
theorem MpT35 : Ent.check Tryz.prog [] 990 MpE35 = true := by kernel_rfl
theorem MpK35 : MpE35.Ok Tryz.prog := Ent.ok_of mixed Tab.ok_nil MpT35
def MpE36 : Ent := ⟨171, (.cons (.ptr 110428 0) (.cons (nu 4) (.cons (nu 5) .nil))), ⟨[MpO331, MpO332, MpO333, MpO334, MpO335, MpO336, MpO337, MpO338, MpO339, MpO340, MpO341, MpO342, MpO343, MpO344, MpO345, MpO346, MpO347, MpO348, MpO349, MpO350, MpO351, MpO352, MpO353, MpO354, MpO355, MpO356, MpO357, MpO358, MpO359, MpO360, MpO361, MpO362, MpO363, MpO364, MpO365, MpO366, MpO367, MpO368, MpO369, MpO370, MpO371, MpO372, MpO373, MpO380], 110574⟩, (.agg (avs [(nu 19), (nu 0), (nu 0), (nu 0), (.str 0 0), (nu 0), (.sl 111303 0 2 8 true), (nu 29)])), ⟨[MpO331, MpO332, MpO333, MpO334, MpO335, MpO336, MpO337, MpO338, MpO339, MpO340, MpO341, MpO342, MpO343, MpO344, MpO345, MpO346, MpO347, MpO348, MpO349, MpO350, MpO351, MpO352, MpO353, MpO354, MpO355, MpO356, MpO357, MpO358, MpO359, MpO360, MpO361, MpO362, MpO363, MpO364, MpO365, MpO366, MpO367, MpO368, MpO369, MpO370, MpO371, MpO372, MpO373, MpO378, MpO376, MpO381, MpO379, MpO382, MpO383], 111421⟩⟩
theorem MpT36 : Ent.check Tryz.prog [(222, [MpE34, MpE35])] 990 MpE36 = true := by kernel_rfl
theorem MpK36 : MpE36.Ok Tryz.prog := Ent.ok_of mixed (Tab.ok_cons (f := 222) (Ent.ok_cons MpK34 (Ent.ok_cons MpK35 Ent.ok_nil)) Tab.ok_nil) MpT36
end Go.Proofs.YtpepepkfjimoeaaGreat

/- Calls that were proved one by one: what the evaluator says. -/
import Derived.Test.YtpepepkfjimoeaaGreatTbO
import Derived.Test.YtpepepkfjimoeaaGreatProg
import Derived.ProofKit
import Derived.Test.YtpepepkfjimoeaaGreatVh
namespace Go.Proofs.YtpepepkfjimoeaaGreat
open Go.Proofs.YtpepepkfjimoeaaGreat.Ev
set_option maxRecDepth 100000

def TbE55 : Ent := ⟨22, (.cons (.str 29 3376246760815086970662607204186377795336782495623668516686363440213609) .nil), ⟨[], 122113⟩, (.tup (avs [(.sl 134446 0 19 4 false), (.agg (avs [(nu 0), (nu 0)]))])), ⟨[TbO321, TbO322, TbO323, TbO324, TbO325, TbO326, TbO327, TbO328, TbO329, TbO330, TbO331, TbO332, TbO333, TbO334, TbO335, TbO336, TbO337, TbO338, TbO339], 134447⟩⟩
theorem TbT55 : Ent.check Tryz.prog [] 990 TbE55 = true := by kernel_rfl
theorem TbK55 : TbE55.Ok Tryz.prog := Ent.ok_of mixed Tab.ok_nil TbT55
def TbE56 : Ent := ⟨171, (.cons (.ptr 134448 0) (.cons (nu 3) (.cons (nu 3) .nil))), ⟨[TbO321, TbO322, TbO323, TbO324, TbO325, TbO326, TbO327, TbO328, TbO329, TbO330, TbO331, TbO332, TbO333, TbO334, TbO335, TbO336, TbO337, TbO338, TbO339, TbO340], 134562⟩, (.agg (avs [(nu 2), (nu 0), (nu 0), (nu 0), (.str 1 97), (nu 0), .nils, (nu 26)])), ⟨[TbO321, TbO322, TbO323, TbO324, TbO325, TbO326, TbO327, TbO328, TbO329, TbO330, TbO331, TbO332, TbO333, TbO334, TbO335, TbO336, TbO337, TbO338, TbO339, TbO341], 134757⟩⟩
theorem TbT56 : Ent.check Tryz.prog [] 990 TbE56 = true := by kernel_rfl
theorem TbK56 : TbE56.Ok Tryz.prog := Ent.ok_of mixed Tab.ok_nil TbT56
def TbE57 : Ent := ⟨48, (.cons (.ptr 134448 0) (.cons (nu 1) .nil)), ⟨[TbO321, TbO322, TbO323, TbO324, TbO325, TbO326, TbO327, TbO328, TbO329, TbO330, TbO331, TbO332, TbO333, TbO334, TbO335, TbO336, TbO337, TbO338, TbO339, TbO342], 134478⟩, (.sl 134838 0 2 9 false), ⟨[TbO321, TbO322, TbO323, TbO324, TbO325, TbO326, TbO327, TbO328, TbO329, TbO330, TbO331, TbO332, TbO333, TbO334, TbO335, TbO336, TbO337, TbO338, TbO339, TbO343, TbO344, TbO345, TbO346], 134843⟩⟩
theorem TbT57 : Ent.check Tryz.prog [(171, [TbE56])] 990 TbE57 = true := by kernel_rfl
theorem TbK57 : TbE57.Ok Tryz.prog := Ent.ok_of mixed (Tab.ok_cons (f := 171) (Ent.ok_cons TbK56 Ent.ok_nil) Tab.ok_nil) TbT57
def TbE58 : Ent := ⟨22, (.cons (.str 25 786095135692784265207067892856625658876841120304019098857065) .nil), ⟨[], 135241⟩, (.tup (avs [(.sl 146340 0 16 4 false), (.agg (avs [(nu 0), (nu 0)]))])), ⟨[TbO347, TbO348, TbO349, TbO350, TbO351, TbO352, TbO353, TbO354, TbO355, TbO356, TbO357, TbO358, TbO359, TbO360, TbO361, TbO362], 146341⟩⟩
theorem TbT58 : Ent.check Tryz.prog [] 990 TbE58 = true := by kernel_rfl
theorem TbK58 : TbE58.Ok Tryz.prog := Ent.ok_of mixed Tab.ok_nil TbT58
def TbE59 : Ent := ⟨192, (.cons (.ptr 146342 0) (.cons (nu 3) .nil)), ⟨[TbO347, TbO348, TbO349, TbO350, TbO351, TbO352, TbO353, TbO354, TbO355, TbO356, TbO357, TbO358, TbO359, TbO360, TbO361, TbO362, TbO363], 146442⟩, (.agg (avs [(nu 9), (nu 5), (nu 0), (nu 0), (.str 0 0), (nu 0), (.sl 146497 0 1 8 true), (nu 17)])), ⟨[TbO347, TbO348, TbO349, TbO350, TbO351, TbO352, TbO353, TbO354, TbO355, TbO356, TbO357, TbO358, TbO359, TbO360, TbO361, TbO362, TbO364, TbO365], 146498⟩⟩
theorem TbT59 : Ent.check Tryz.prog [] 990 TbE59 = true := by kernel_rfl
theorem TbK59 : TbE59.Ok Tryz.prog := Ent.ok_of mixed Tab.ok_nil TbT59
def TbE60 : Ent := ⟨87, (.cons (.ptr 146342 0) (.cons (nu 2) .nil)), ⟨[TbO347, TbO348, TbO349, TbO350, TbO351, TbO352, TbO353, TbO354, TbO355, TbO356, TbO357, TbO358, TbO359, TbO360, TbO361, TbO362, TbO363], 146413⟩, (.agg (avs [(nu 1), (.sl 146735 0 1 8 true), .nils, (nu 0), (nu 0), (nu 0), (.str 0 0), (nu 0), (nu 17)])), ⟨[TbO347, TbO348, TbO349, TbO350, TbO351, TbO352, TbO353, TbO354, TbO355, TbO356, TbO357, TbO358, TbO359, TbO360, TbO361, TbO362, TbO366, TbO365, TbO367], 146739⟩⟩
theorem TbT60 : Ent.check Tryz.prog [(192, [TbE59])] 990 TbE60 = true := by kernel_rfl
theorem TbK60 : TbE60.Ok Tryz.prog := Ent.ok_of mixed (Tab.ok_cons (f := 192) (Ent.ok_cons TbK59 Ent.ok_nil) Tab.ok_nil) TbT60
def TbE61 : Ent := ⟨23, (.cons (.ptr 146342 0) .nil), ⟨[TbO347, TbO348, TbO349, TbO350, TbO351, TbO352, TbO353, TbO354, TbO355, TbO356, TbO357, TbO358, TbO359, TbO360, TbO361, TbO362, TbO368], 146343⟩, (.tup (avs [])), ⟨[TbO347, TbO348, TbO349, TbO350, TbO351, TbO352, TbO353, TbO354, TbO355, TbO356, TbO357, TbO358, TbO359, TbO360, TbO361, TbO362, TbO369, TbO370, TbO365, TbO367, TbO371, TbO372], 146759⟩⟩
theorem TbT61 : Ent.check Tryz.prog [(87, [TbE60])] 990 TbE61 = true := by kernel_rfl
theorem TbK61 : TbE61.Ok Tryz.prog := Ent.ok_of mixed (Tab.ok_cons (f := 87) (Ent.ok_cons TbK60 Ent.ok_nil) Tab.ok_nil) TbT61
end Go.Proofs.YtpepepkfjimoeaaGreat

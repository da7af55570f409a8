/- Calls that were proved one by one: what the evaluator says. -/
import Derived.Test.YtpepepkfjimoeaaGreatMnO
import Derived.Test.YtpepepkfjimoeaaGreatMnOx1
import Derived.Test.YtpepepkfjimoeaaGreatProg
import Derived.ProofKit
import Derived.Test.YtpepepkfjimoeaaGreatVh
namespace Go.Proofs.YtpepepkfjimoeaaGreat
open Go.Proofs.YtpepepkfjimoeaaGreat.Ev
set_option maxRecDepth 100000

def MnE48 : Ent := ⟨30, (.cons (.agg (avs [.nils, (.sl 110392 0 1 8 false)])) .nil), ⟨[MnO304, MnO307, MnO316, MnO317, MnO310, MnO313, MnO318, MnO319, MnO320], 110395⟩, (.tup (avs [(.agg (avs [.nils, (.sl 110455 0 1 8 false)])), (.agg (avs [(nu 0), (nu 0)]))])), ⟨[MnO304, MnO307, MnO316, MnO317, MnO310, MnO313, MnO318, MnO319, MnO320, MnO321, MnO322, MnO323, MnO324, MnO325, MnO326, MnO327, MnO328, MnO329], 110718⟩⟩
theorem MnT48 : Ent.check Tryz.prog [] 990 MnE48 = true := by kernel_rfl
theorem MnK48 : MnE48.Ok Tryz.prog := Ent.ok_of mixed Tab.ok_nil MnT48
def MnE49 : Ent := ⟨17, (.cons (.agg (avs [.nils, (.sl 110455 0 1 8 false)])) .nil), ⟨[MnO321, MnO322, MnO323, MnO324, MnO325, MnO326, MnO327, MnO328, MnO329], 110729⟩, (.tup (avs [(.agg (avs [.nils, (.sl 110744 0 1 8 false)])), (.agg (avs [(nu 0), (nu 0)]))])), ⟨[MnO321, MnO322, MnO323, MnO324, MnO325, MnO326, MnO327, MnO328, MnO329, MnO330, MnO331, MnO332, MnO333, MnO334, MnO335, MnO336, MnO337], 111058⟩⟩
theorem MnT49 : Ent.check Tryz.prog [] 990 MnE49 = true := by kernel_rfl
theorem MnK49 : MnE49.Ok Tryz.prog := Ent.ok_of mixed Tab.ok_nil MnT49
def MnE50 : Ent := ⟨20, (.cons (.agg (avs [.nils, (.sl 110455 0 1 8 false)])) (.cons .nils (.cons (nu 2000) .nil))), ⟨[MnO321, MnO322, MnO323, MnO324, MnO325, MnO326, MnO327, MnO328, MnO329], 110726⟩, (.tup (avs [(.agg (avs [(nu 1), (nu 0), (.sl 111433 0 2 1 false), (nu 10), (nu 1)])), (nu 0)])), ⟨[MnO321, MnO322, MnO323, MnO324, MnO325, MnO326, MnO327, MnO328, MnO329, MnO338, MnO339], 111494⟩⟩
theorem MnT50 : Ent.check Tryz.prog [(17, [MnE49])] 990 MnE50 = true := by kernel_rfl
theorem MnK50 : MnE50.Ok Tryz.prog := Ent.ok_of mixed (Tab.ok_cons (f := 17) (Ent.ok_cons MnK49 Ent.ok_nil) Tab.ok_nil) MnT50
def MnE51 : Ent := ⟨22, (.cons (.str 38 15943765651140809056713649040667572086450001837091647788519455211929322591123802696218603113) .nil), ⟨[], 111536⟩, (.tup (avs [(.sl 123772 0 20 4 false), (.agg (avs [(nu 0), (nu 0)]))])), ⟨[MnO340, MnO341, MnO342, MnO343, MnO344, MnO345, MnO346, MnO347, MnO348, MnO349, MnO350, MnO351, MnO352, MnO353, MnO354, MnO355, MnO356, MnO357, MnO358, MnO359], 123773⟩⟩
theorem MnT51 : Ent.check Tryz.prog [] 990 MnE51 = true := by kernel_rfl
theorem MnK51 : MnE51.Ok Tryz.prog := Ent.ok_of mixed Tab.ok_nil MnT51
def MnE52 : Ent := ⟨87, (.cons (.ptr 123774 0) (.cons (nu 2) .nil)), ⟨[MnO340, MnO341, MnO342, MnO343, MnO344, MnO345, MnO346, MnO347, MnO348, MnO349, MnO350, MnO351, MnO352, MnO353, MnO354, MnO355, MnO356, MnO357, MnO358, MnO359, MnO360], 123808⟩, (.agg (avs [(nu 2), (.sl 124114 0 1 8 true), .nils, (nu 6), (nu 0), (nu 0), (.str 1 97), (nu 0), (nu 11)])), ⟨[MnO340, MnO341, MnO342, MnO343, MnO344, MnO345, MnO346, MnO347, MnO348, MnO349, MnO350, MnO351, MnO352, MnO353, MnO354, MnO355, MnO356, MnO357, MnO358, MnO359, MnO361, MnO362], 124118⟩⟩
theorem MnT52 : Ent.check Tryz.prog [] 990 MnE52 = true := by kernel_rfl
theorem MnK52 : MnE52.Ok Tryz.prog := Ent.ok_of mixed Tab.ok_nil MnT52
def MnE53 : Ent := ⟨171, (.cons (.ptr 123774 0) (.cons (nu 4) (.cons (nu 2) .nil))), ⟨[MnO340, MnO341, MnO342, MnO343, MnO344, MnO345, MnO346, MnO347, MnO348, MnO349, MnO350, MnO351, MnO352, MnO353, MnO354, MnO355, MnO356, MnO357, MnO358, MnO359, MnO363], 124188⟩, (.agg (avs [(nu 16), (nu 0), (nu 0), (nu 0), (.str 0 0), (nu 0), (.sl 124281 0 2 8 true), (nu 33)])), ⟨[MnO340, MnO341, MnO342, MnO343, MnO344, MnO345, MnO346, MnO347, MnO348, MnO349, MnO350, MnO351, MnO352, MnO353, MnO354, MnO355, MnO356, MnO357, MnO358, MnO359, MnO364, MnO365], 124491⟩⟩
theorem MnT53 : Ent.check Tryz.prog [] 990 MnE53 = true := by kernel_rfl
theorem MnK53 : MnE53.Ok Tryz.prog := Ent.ok_of mixed Tab.ok_nil MnT53
def MnE54 : Ent := ⟨171, (.cons (.ptr 123774 0) (.cons (nu 3) (.cons (nu 0) .nil))), ⟨[MnO340, MnO341, MnO342, MnO343, MnO344, MnO345, MnO346, MnO347, MnO348, MnO349, MnO350, MnO351, MnO352, MnO353, MnO354, MnO355, MnO356, MnO357, MnO358, MnO359, MnO361], 124139⟩, (.agg (avs [(nu 35), (nu 0), (nu 0), (nu 0), (.str 3 7632240), (nu 0), (.sl 124544 0 1 8 false), (nu 28)])), ⟨[MnO340, MnO341, MnO342, MnO343, MnO344, MnO345, MnO346, MnO347, MnO348, MnO349, MnO350, MnO351, MnO352, MnO353, MnO354, MnO355, MnO356, MnO357, MnO358, MnO359, MnO366, MnO365, MnO367], 124784⟩⟩
theorem MnT54 : Ent.check Tryz.prog [(171, [MnE53])] 990 MnE54 = true := by kernel_rfl
theorem MnK54 : MnE54.Ok Tryz.prog := Ent.ok_of mixed (Tab.ok_cons (f := 171) (Ent.ok_cons MnK53 Ent.ok_nil) Tab.ok_nil) MnT54
def MnE55 : Ent := ⟨19, (.cons (.str 38 15943765651140809056713649040667572086450001837091647788519455211929322591123802696218603113) .nil), ⟨[], 111533⟩, (.tup (avs [(.agg (avs [.nils, (.sl 124862 0 1 8 false)])), (.bool true)])), ⟨[MnO368, MnO369, MnO370, MnO371, MnO372, MnO373, MnO374], 125163⟩⟩
theorem MnT55 : Ent.check Tryz.prog [(22, [MnE51]), (87, [MnE52]), (171, [MnE54])] 990 MnE55 = true := by kernel_rfl
theorem MnK55 : MnE55.Ok Tryz.prog := Ent.ok_of mixed (Tab.ok_cons (f := 22) (Ent.ok_cons MnK51 Ent.ok_nil) (Tab.ok_cons (f := 87) (Ent.ok_cons MnK52 Ent.ok_nil) (Tab.ok_cons (f := 171) (Ent.ok_cons MnK54 Ent.ok_nil) Tab.ok_nil))) MnT55
def MnE56 : Ent := ⟨31, (.cons (.agg (avs [.nils, (.sl 124862 0 1 8 false)])) .nil), ⟨[MnO368, MnO369, MnO370, MnO371, MnO372, MnO373, MnO374], 125166⟩, (.bool true), ⟨[MnO368, MnO369, MnO370, MnO371, MnO372, MnO373, MnO374], 125571⟩⟩
theorem MnT56 : Ent.check Tryz.prog [] 990 MnE56 = true := by kernel_rfl
theorem MnK56 : MnE56.Ok Tryz.prog := Ent.ok_of mixed Tab.ok_nil MnT56
end Go.Proofs.YtpepepkfjimoeaaGreat

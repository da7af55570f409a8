/- Calls that were proved one by one: what the evaluator says. -/
import Derived.Test.YtpepepkfjimoeaaGreatTbO
import Derived.Test.YtpepepkfjimoeaaGreatProg
import Derived.ProofKit
import Derived.Test.YtpepepkfjimoeaaGreatVh
namespace Go.Proofs.YtpepepkfjimoeaaGreat
open Go.Proofs.YtpepepkfjimoeaaGreat.Ev
set_option maxRecDepth 100000

def TbE62 : Ent := ⟨22, (.cons (.str 33 14500770332283776918926761063321047973399765048302871303364668461024111669899126) .nil), ⟨[], 147068⟩, (.tup (avs [(.sl 161572 0 18 4 false), (.agg (avs [(nu 0), (nu 0)]))])), ⟨[TbO373, TbO374, TbO375, TbO376, TbO377, TbO378, TbO379, TbO380, TbO381, TbO382, TbO383, TbO384, TbO385, TbO386, TbO387, TbO388, TbO389, TbO390], 161573⟩⟩
theorem TbT62 : Ent.check Tryz.prog [] 990 TbE62 = true := by kernel_rfl
theorem TbK62 : TbE62.Ok Tryz.prog := Ent.ok_of mixed Tab.ok_nil TbT62
def TbE63 : Ent := ⟨171, (.cons (.ptr 161574 0) (.cons (nu 3) (.cons (nu 4) .nil))), ⟨[TbO373, TbO374, TbO375, TbO376, TbO377, TbO378, TbO379, TbO380, TbO381, TbO382, TbO383, TbO384, TbO385, TbO386, TbO387, TbO388, TbO389, TbO390, TbO391, TbO392], 161678⟩, (.agg (avs [(nu 35), (nu 0), (nu 0), (nu 0), (.str 1 102), (nu 0), .nils, (nu 28)])), ⟨[TbO373, TbO374, TbO375, TbO376, TbO377, TbO378, TbO379, TbO380, TbO381, TbO382, TbO383, TbO384, TbO385, TbO386, TbO387, TbO388, TbO389, TbO390, TbO393, TbO392], 161854⟩⟩
theorem TbT63 : Ent.check Tryz.prog [] 990 TbE63 = true := by kernel_rfl
theorem TbK63 : TbE63.Ok Tryz.prog := Ent.ok_of mixed Tab.ok_nil TbT63
def TbE64 : Ent := ⟨48, (.cons (.ptr 161574 0) (.cons (nu 1) .nil)), ⟨[TbO373, TbO374, TbO375, TbO376, TbO377, TbO378, TbO379, TbO380, TbO381, TbO382, TbO383, TbO384, TbO385, TbO386, TbO387, TbO388, TbO389, TbO390, TbO394, TbO392], 161649⟩, (.sl 161958 0 1 9 false), ⟨[TbO373, TbO374, TbO375, TbO376, TbO377, TbO378, TbO379, TbO380, TbO381, TbO382, TbO383, TbO384, TbO385, TbO386, TbO387, TbO388, TbO389, TbO390, TbO395, TbO392, TbO396, TbO397], 161963⟩⟩
theorem TbT64 : Ent.check Tryz.prog [(171, [TbE63])] 990 TbE64 = true := by kernel_rfl
theorem TbK64 : TbE64.Ok Tryz.prog := Ent.ok_of mixed (Tab.ok_cons (f := 171) (Ent.ok_cons TbK63 Ent.ok_nil) Tab.ok_nil) TbT64
def TbE65 : Ent := ⟨22, (.cons (.str 26 201238613721417989221270662470605583051039765485595735269928822) .nil), ⟨[], 162227⟩, (.tup (avs [(.sl 176723 0 17 4 false), (.agg (avs [(nu 0), (nu 0)]))])), ⟨[TbO398, TbO399, TbO400, TbO401, TbO402, TbO403, TbO404, TbO405, TbO406, TbO407, TbO408, TbO409, TbO410, TbO411, TbO412, TbO413, TbO414], 176724⟩⟩
theorem TbT65 : Ent.check Tryz.prog [] 990 TbE65 = true := by kernel_rfl
theorem TbK65 : TbE65.Ok Tryz.prog := Ent.ok_of mixed Tab.ok_nil TbT65
def TbE66 : Ent := ⟨171, (.cons (.ptr 176725 0) (.cons (nu 3) (.cons (nu 4) .nil))), ⟨[TbO398, TbO399, TbO400, TbO401, TbO402, TbO403, TbO404, TbO405, TbO406, TbO407, TbO408, TbO409, TbO410, TbO411, TbO412, TbO413, TbO414, TbO415, TbO416], 176826⟩, (.agg (avs [(nu 35), (nu 0), (nu 0), (nu 0), (.str 1 102), (nu 0), .nils, (nu 21)])), ⟨[TbO398, TbO399, TbO400, TbO401, TbO402, TbO403, TbO404, TbO405, TbO406, TbO407, TbO408, TbO409, TbO410, TbO411, TbO412, TbO413, TbO414, TbO417, TbO416], 177002⟩⟩
theorem TbT66 : Ent.check Tryz.prog [] 990 TbE66 = true := by kernel_rfl
theorem TbK66 : TbE66.Ok Tryz.prog := Ent.ok_of mixed Tab.ok_nil TbT66
def TbE67 : Ent := ⟨48, (.cons (.ptr 176725 0) (.cons (nu 1) .nil)), ⟨[TbO398, TbO399, TbO400, TbO401, TbO402, TbO403, TbO404, TbO405, TbO406, TbO407, TbO408, TbO409, TbO410, TbO411, TbO412, TbO413, TbO414, TbO418, TbO416], 176800⟩, (.sl 177106 0 1 9 false), ⟨[TbO398, TbO399, TbO400, TbO401, TbO402, TbO403, TbO404, TbO405, TbO406, TbO407, TbO408, TbO409, TbO410, TbO411, TbO412, TbO413, TbO414, TbO419, TbO416, TbO420, TbO421], 177111⟩⟩
theorem TbT67 : Ent.check Tryz.prog [(171, [TbE66])] 990 TbE67 = true := by kernel_rfl
theorem TbK67 : TbE67.Ok Tryz.prog := Ent.ok_of mixed (Tab.ok_cons (f := 171) (Ent.ok_cons TbK66 Ent.ok_nil) Tab.ok_nil) TbT67
end Go.Proofs.YtpepepkfjimoeaaGreat

/- Calls that were proved one by one: what the evaluator says. -/
import Derived.Test.YtpepepkfjimoeaaGreatMnO
import Derived.Test.YtpepepkfjimoeaaGreatMnOx1
import Derived.Test.YtpepepkfjimoeaaGreatProg
import Derived.ProofKit
import Derived.Test.YtpepepkfjimoeaaGreatVh
namespace Go.Proofs.YtpepepkfjimoeaaGreat
open Go.Proofs.YtpepepkfjimoeaaGreat.Ev
set_option maxRecDepth 100000

def MnE57 : Ent := ⟨22, (.cons (.str 34 3712197220691003703406664212972838735587195575559622229018153212843276791320964713) .nil), ⟨[], 126022⟩, (.tup (avs [(.sl 139996 0 22 4 false), (.agg (avs [(nu 0), (nu 0)]))])), ⟨[MnO375, MnO376, MnO377, MnO378, MnO379, MnO380, MnO381, MnO382, MnO383, MnO384, MnO385, MnO386, MnO387, MnO388, MnO389, MnO390, MnO391, MnO392, MnO393, MnO394, MnO395, MnO396], 139997⟩⟩
theorem MnT57 : Ent.check Tryz.prog [] 990 MnE57 = true := by kernel_rfl
theorem MnK57 : MnE57.Ok Tryz.prog := Ent.ok_of mixed Tab.ok_nil MnT57
def MnE58 : Ent := ⟨171, (.cons (.ptr 139998 0) (.cons (nu 4) (.cons (nu 4) .nil))), ⟨[MnO375, MnO376, MnO377, MnO378, MnO379, MnO380, MnO381, MnO382, MnO383, MnO384, MnO385, MnO386, MnO387, MnO388, MnO389, MnO390, MnO391, MnO392, MnO393, MnO394, MnO395, MnO396, MnO397], 140101⟩, (.agg (avs [(nu 20), (nu 0), (nu 0), (nu 0), (.str 0 0), (nu 0), (.sl 140284 0 2 8 true), (nu 16)])), ⟨[MnO375, MnO376, MnO377, MnO378, MnO379, MnO380, MnO381, MnO382, MnO383, MnO384, MnO385, MnO386, MnO387, MnO388, MnO389, MnO390, MnO391, MnO392, MnO393, MnO394, MnO395, MnO396, MnO398, MnO399], 140402⟩⟩
theorem MnT58 : Ent.check Tryz.prog [] 990 MnE58 = true := by kernel_rfl
theorem MnK58 : MnE58.Ok Tryz.prog := Ent.ok_of mixed Tab.ok_nil MnT58
def MnE59 : Ent := ⟨171, (.cons (.ptr 139998 0) (.cons (nu 3) (.cons (nu 2) .nil))), ⟨[MnO375, MnO376, MnO377, MnO378, MnO379, MnO380, MnO381, MnO382, MnO383, MnO384, MnO385, MnO386, MnO387, MnO388, MnO389, MnO390, MnO391, MnO392, MnO393, MnO394, MnO395, MnO396, MnO400], 140052⟩, (.agg (avs [(nu 35), (nu 0), (nu 0), (nu 0), (.str 3 7632240), (nu 0), (.sl 140501 0 1 8 false), (nu 11)])), ⟨[MnO375, MnO376, MnO377, MnO378, MnO379, MnO380, MnO381, MnO382, MnO383, MnO384, MnO385, MnO386, MnO387, MnO388, MnO389, MnO390, MnO391, MnO392, MnO393, MnO394, MnO395, MnO396, MnO401, MnO399, MnO402], 140695⟩⟩
theorem MnT59 : Ent.check Tryz.prog [(171, [MnE58])] 990 MnE59 = true := by kernel_rfl
theorem MnK59 : MnE59.Ok Tryz.prog := Ent.ok_of mixed (Tab.ok_cons (f := 171) (Ent.ok_cons MnK58 Ent.ok_nil) Tab.ok_nil) MnT59
def MnE60 : Ent := ⟨171, (.cons (.ptr 139998 0) (.cons (nu 4) (.cons (nu 6) .nil))), ⟨[MnO375, MnO376, MnO377, MnO378, MnO379, MnO380, MnO381, MnO382, MnO383, MnO384, MnO385, MnO386, MnO387, MnO388, MnO389, MnO390, MnO391, MnO392, MnO393, MnO394, MnO395, MnO396, MnO403], 140826⟩, (.agg (avs [(nu 21), (nu 0), (nu 0), (nu 0), (.str 0 0), (nu 0), (.sl 141015 0 2 8 true), (nu 28)])), ⟨[MnO375, MnO376, MnO377, MnO378, MnO379, MnO380, MnO381, MnO382, MnO383, MnO384, MnO385, MnO386, MnO387, MnO388, MnO389, MnO390, MnO391, MnO392, MnO393, MnO394, MnO395, MnO396, MnO404, MnO405, MnO406], 141087⟩⟩
theorem MnT60 : Ent.check Tryz.prog [] 990 MnE60 = true := by kernel_rfl
theorem MnK60 : MnE60.Ok Tryz.prog := Ent.ok_of mixed Tab.ok_nil MnT60
def MnE61 : Ent := ⟨171, (.cons (.ptr 139998 0) (.cons (nu 3) (.cons (nu 4) .nil))), ⟨[MnO375, MnO376, MnO377, MnO378, MnO379, MnO380, MnO381, MnO382, MnO383, MnO384, MnO385, MnO386, MnO387, MnO388, MnO389, MnO390, MnO391, MnO392, MnO393, MnO394, MnO395, MnO396, MnO407], 140777⟩, (.agg (avs [(nu 35), (nu 0), (nu 0), (nu 0), (.str 3 7632240), (nu 0), (.sl 141232 0 1 8 false), (nu 22)])), ⟨[MnO375, MnO376, MnO377, MnO378, MnO379, MnO380, MnO381, MnO382, MnO383, MnO384, MnO385, MnO386, MnO387, MnO388, MnO389, MnO390, MnO391, MnO392, MnO393, MnO394, MnO395, MnO396, MnO408, MnO405, MnO406, MnO409], 141380⟩⟩
theorem MnT61 : Ent.check Tryz.prog [(171, [MnE60])] 990 MnE61 = true := by kernel_rfl
theorem MnK61 : MnE61.Ok Tryz.prog := Ent.ok_of mixed (Tab.ok_cons (f := 171) (Ent.ok_cons MnK60 Ent.ok_nil) Tab.ok_nil) MnT61
def MnE62 : Ent := ⟨48, (.cons (.ptr 139998 0) (.cons (nu 1) .nil)), ⟨[MnO375, MnO376, MnO377, MnO378, MnO379, MnO380, MnO381, MnO382, MnO383, MnO384, MnO385, MnO386, MnO387, MnO388, MnO389, MnO390, MnO391, MnO392, MnO393, MnO394, MnO395, MnO396, MnO410], 140028⟩, (.sl 141484 0 2 9 false), ⟨[MnO375, MnO376, MnO377, MnO378, MnO379, MnO380, MnO381, MnO382, MnO383, MnO384, MnO385, MnO386, MnO387, MnO388, MnO389, MnO390, MnO391, MnO392, MnO393, MnO394, MnO395, MnO396, MnO411, MnO399, MnO402, MnO412, MnO413, MnO405, MnO406, MnO409, MnO414, MnO415], 141489⟩⟩
theorem MnT62 : Ent.check Tryz.prog [(171, [MnE59, MnE61])] 990 MnE62 = true := by kernel_rfl
theorem MnK62 : MnE62.Ok Tryz.prog := Ent.ok_of mixed (Tab.ok_cons (f := 171) (Ent.ok_cons MnK59 (Ent.ok_cons MnK61 Ent.ok_nil)) Tab.ok_nil) MnT62
def MnE63 : Ent := ⟨30, (.cons (.agg (avs [.nils, (.sl 141502 0 1 8 false)])) .nil), ⟨[MnO399, MnO402, MnO412, MnO413, MnO405, MnO406, MnO409, MnO414, MnO415, MnO416], 141505⟩, (.tup (avs [(.agg (avs [.nils, (.sl 141570 0 1 8 false)])), (.agg (avs [(nu 0), (nu 0)]))])), ⟨[MnO399, MnO402, MnO412, MnO413, MnO405, MnO406, MnO409, MnO414, MnO415, MnO416, MnO417, MnO418, MnO419, MnO420, MnO421, MnO422, MnO423, MnO424, MnO425, MnO426], 141844⟩⟩
theorem MnT63 : Ent.check Tryz.prog [] 990 MnE63 = true := by kernel_rfl
theorem MnK63 : MnE63.Ok Tryz.prog := Ent.ok_of mixed Tab.ok_nil MnT63
def MnE64 : Ent := ⟨17, (.cons (.agg (avs [.nils, (.sl 141570 0 1 8 false)])) .nil), ⟨[MnO417, MnO418, MnO419, MnO420, MnO421, MnO422, MnO423, MnO424, MnO425, MnO426], 141855⟩, (.tup (avs [(.agg (avs [.nils, (.sl 141870 0 1 8 false)])), (.agg (avs [(nu 0), (nu 0)]))])), ⟨[MnO417, MnO418, MnO419, MnO420, MnO421, MnO422, MnO423, MnO424, MnO425, MnO426, MnO427, MnO428, MnO429, MnO430, MnO431, MnO432, MnO433, MnO434, MnO435], 142209⟩⟩
theorem MnT64 : Ent.check Tryz.prog [] 990 MnE64 = true := by kernel_rfl
theorem MnK64 : MnE64.Ok Tryz.prog := Ent.ok_of mixed Tab.ok_nil MnT64
def MnE65 : Ent := ⟨20, (.cons (.agg (avs [.nils, (.sl 141570 0 1 8 false)])) (.cons .nils (.cons (nu 2000) .nil))), ⟨[MnO417, MnO418, MnO419, MnO420, MnO421, MnO422, MnO423, MnO424, MnO425, MnO426], 141852⟩, (.tup (avs [(.agg (avs [(nu 1), (nu 0), (.sl 142662 0 2 1 false), (nu 11), (nu 1)])), (nu 0)])), ⟨[MnO417, MnO418, MnO419, MnO420, MnO421, MnO422, MnO423, MnO424, MnO425, MnO426, MnO436, MnO437], 142723⟩⟩
theorem MnT65 : Ent.check Tryz.prog [(17, [MnE64])] 990 MnE65 = true := by kernel_rfl
theorem MnK65 : MnE65.Ok Tryz.prog := Ent.ok_of mixed (Tab.ok_cons (f := 17) (Ent.ok_cons MnK64 Ent.ok_nil) Tab.ok_nil) MnT65
end Go.Proofs.YtpepepkfjimoeaaGreat

/- Calls that were proved one by one: what the evaluator says. -/
import Derived.Test.YtpepepkfjimoeaaGreatNaO
import Derived.Test.YtpepepkfjimoeaaGreatProg
import Derived.ProofKit
import Derived.Test.YtpepepkfjimoeaaGreatVh
namespace Go.Proofs.YtpepepkfjimoeaaGreat
open Go.Proofs.YtpepepkfjimoeaaGreat.Ev
set_option maxRecDepth 100000

def NaE3 : Ent := ⟨22, (.cons (.str 32 56756712323501828054506286322272972527765131451906230686645002650228272426601) .nil), ⟨[], 25820⟩, (.tup (avs [(.sl 37826 0 18 4 false), (.agg (avs [(nu 0), (nu 0)]))])), ⟨[NaO36, NaO37, NaO38, NaO39, NaO40, NaO41, NaO42, NaO43, NaO44, NaO45, NaO46, NaO47, NaO48, NaO49, NaO50, NaO51, NaO52, NaO53], 37827⟩⟩
theorem NaT3 : Ent.check Tryz.prog [] 990 NaE3 = true := by kernel_rfl
theorem NaK3 : NaE3.Ok Tryz.prog := Ent.ok_of mixed Tab.ok_nil NaT3
def NaE4 : Ent := ⟨22, (.cons (.str 24 3070678498480136455835238542498663321284713700885295033961) .nil), ⟨[], 38113⟩, (.tup (avs [(.sl 45903 0 13 4 false), (.agg (avs [(nu 0), (nu 0)]))])), ⟨[NaO54, NaO55, NaO56, NaO57, NaO58, NaO59, NaO60, NaO61, NaO62, NaO63, NaO64, NaO65, NaO66], 45904⟩⟩
theorem NaT4 : Ent.check Tryz.prog [] 990 NaE4 = true := by kernel_rfl
theorem NaK4 : NaE4.Ok Tryz.prog := Ent.ok_of mixed Tab.ok_nil NaT4
def NaE5 : Ent := ⟨22, (.cons (.str 26 201653349227984699381001424143003518278742453439597271345032809) .nil), ⟨[], 46322⟩, (.tup (avs [(.sl 56923 0 15 4 false), (.agg (avs [(nu 0), (nu 0)]))])), ⟨[NaO67, NaO68, NaO69, NaO70, NaO71, NaO72, NaO73, NaO74, NaO75, NaO76, NaO77, NaO78, NaO79, NaO80, NaO81], 56924⟩⟩
theorem NaT5 : Ent.check Tryz.prog [] 990 NaE5 = true := by kernel_rfl
theorem NaK5 : NaE5.Ok Tryz.prog := Ent.ok_of mixed Tab.ok_nil NaT5
end Go.Proofs.YtpepepkfjimoeaaGreat

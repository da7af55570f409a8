/- Calls that were proved one by one: what the evaluator says. -/
import Derived.Test.YtpepepkfjimoeaaGreatNaO
import Derived.Test.YtpepepkfjimoeaaGreatProg
import Derived.ProofKit
import Derived.Test.YtpepepkfjimoeaaGreatVh
namespace Go.Proofs.YtpepepkfjimoeaaGreat
open Go.Proofs.YtpepepkfjimoeaaGreat.Ev
set_option maxRecDepth 100000

def NaE15 : Ent := ⟨22, (.cons (.str 22 46854614793926050129065884007033564413426997231119977) .nil), ⟨[], 149393⟩, (.tup (avs [(.sl 158333 0 13 4 false), (.agg (avs [(nu 0), (nu 0)]))])), ⟨[NaO208, NaO209, NaO210, NaO211, NaO212, NaO213, NaO214, NaO215, NaO216, NaO217, NaO218, NaO219, NaO220], 158334⟩⟩
theorem NaT15 : Ent.check Tryz.prog [] 990 NaE15 = true := by kernel_rfl
theorem NaK15 : NaE15.Ok Tryz.prog := Ent.ok_of mixed Tab.ok_nil NaT15
def NaE16 : Ent := ⟨22, (.cons (.str 22 46854515960770190977787287549722376989835803697114729) .nil), ⟨[], 158666⟩, (.tup (avs [(.sl 168995 0 14 4 false), (.agg (avs [(nu 0), (nu 0)]))])), ⟨[NaO221, NaO222, NaO223, NaO224, NaO225, NaO226, NaO227, NaO228, NaO229, NaO230, NaO231, NaO232, NaO233, NaO234], 168996⟩⟩
theorem NaT16 : Ent.check Tryz.prog [] 990 NaE16 = true := by kernel_rfl
theorem NaK16 : NaE16.Ok Tryz.prog := Ent.ok_of mixed Tab.ok_nil NaT16
def NaE17 : Ent := ⟨22, (.cons (.str 16 166460843688925469436369177436640013929) .nil), ⟨[], 169562⟩, (.tup (avs [(.sl 177231 0 11 4 false), (.agg (avs [(nu 0), (nu 0)]))])), ⟨[NaO235, NaO236, NaO237, NaO238, NaO239, NaO240, NaO241, NaO242, NaO243, NaO244, NaO245], 177232⟩⟩
theorem NaT17 : Ent.check Tryz.prog [] 990 NaE17 = true := by kernel_rfl
theorem NaK17 : NaE17.Ok Tryz.prog := Ent.ok_of mixed Tab.ok_nil NaT17
def NaE18 : Ent := ⟨23, (.cons (.ptr 177233 0) .nil), ⟨[NaO235, NaO236, NaO237, NaO238, NaO239, NaO240, NaO241, NaO242, NaO243, NaO244, NaO245, NaO246], 177234⟩, (.tup (avs [])), ⟨[NaO235, NaO236, NaO237, NaO238, NaO239, NaO240, NaO241, NaO242, NaO243, NaO244, NaO245, NaO247, NaO248, NaO249, NaO250, NaO251], 177870⟩⟩
theorem NaT18 : Ent.check Tryz.prog [] 990 NaE18 = true := by kernel_rfl
theorem NaK18 : NaE18.Ok Tryz.prog := Ent.ok_of mixed Tab.ok_nil NaT18
end Go.Proofs.YtpepepkfjimoeaaGreat

/- Calls that were proved one by one: what the evaluator says. -/
import Derived.Test.YtlpmpjechbkpkaaGreatMwO
import Derived.Test.YtlpmpjechbkpkaaGreatProg
import Derived.ProofKit
import Derived.Test.YtlpmpjechbkpkaaGreatWdB
namespace Go.Proofs.YtlpmpjechbkpkaaGreat
open Go.Proofs.YtlpmpjechbkpkaaGreat.Ev
set_option maxRecDepth 100000

def MwE31 : Ent := ⟨116, (.cons (.ptr 79372 0) (.cons (.sl 73992 0 15 9 false) .nil)), ⟨[MwO197, MwO115, MwO116, MwO117, MwO118, MwO119, MwO120, MwO121, MwO122, MwO123, MwO124, MwO125, MwO126, MwO127, MwO128, MwO129, MwO130, MwO131, MwO132, MwO133, MwO134, MwO135, MwO136, MwO137, MwO138, MwO139, MwO140, MwO141, MwO105, MwO142, MwO143, MwO144, MwO145, MwO146, MwO147, MwO148, MwO152, MwO198, MwO199, MwO200, MwO201, MwO202, MwO203, MwO204, MwO205, MwO206, MwO207], 79510⟩, (nu 3), ⟨[MwO197, MwO115, MwO116, MwO117, MwO118, MwO119, MwO120, MwO121, MwO122, MwO123, MwO124, MwO125, MwO126, MwO127, MwO128, MwO129, MwO130, MwO131, MwO132, MwO133, MwO134, MwO135, MwO136, MwO137, MwO138, MwO139, MwO140, MwO141, MwO105, MwO142, MwO143, MwO144, MwO145, MwO146, MwO147, MwO148, MwO152, MwO208, MwO199, MwO209, MwO210, MwO211, MwO212, MwO213, MwO205, MwO206, MwO207, MwO214], 82586⟩⟩
theorem MwT31 [In2] : Ent.check Tryz.prog (knownG Tryz.prog In2.z) [] 990 MwE31 = true := by kernel_rfl
theorem MwK31 [In2] : MwE31.Ok Tryz.prog K0 := Ent.ok_of mixed known_ok Tab.ok_nil MwT31
def MwE32 : Ent := ⟨18, (.cons (.str 28 MwS1) .nil), ⟨[], 82730⟩, (.tup (avs [(.sl 93055 0 15 4 false), (.agg (avs [(nu 0), (nu 0)]))])), ⟨[MwO215], 93056⟩⟩
theorem MwT32 [In2] : Ent.check Tryz.prog (knownG Tryz.prog In2.z) [] 990 MwE32 = true := by kernel_rfl
theorem MwK32 [In2] : MwE32.Ok Tryz.prog K0 := Ent.ok_of mixed known_ok Tab.ok_nil MwT32
def MwE33 : Ent := ⟨231, (.cons (.ptr 93057 0) (.cons (nu 3) .nil)), ⟨[MwO215, MwO216], 93133⟩, (.agg (avs [(nu 35), (nu 0), (nu 0), (nu 0), (.str 3 7632240), (nu 0), (.sl 93428 0 1 8 false), (nu 11)])), ⟨[MwO215, MwO217, MwO218], 93438⟩⟩
theorem MwT33 [In2] : Ent.check Tryz.prog (knownG Tryz.prog In2.z) [] 990 MwE33 = true := by kernel_rfl
theorem MwK33 [In2] : MwE33.Ok Tryz.prog K0 := Ent.ok_of mixed known_ok Tab.ok_nil MwT33
def MwE34 : Ent := ⟨93, (.cons (.ptr 93057 0) (.cons (nu 2) .nil)), ⟨[MwO215, MwO216], 93091⟩, (.agg (avs [(nu 1), (.sl 93675 0 1 8 true), .nils, (nu 0), (nu 0), (nu 0), (.str 0 0), (nu 0), (nu 11)])), ⟨[MwO215, MwO219, MwO218, MwO220], 93679⟩⟩
theorem MwT34 [In2] : Ent.check Tryz.prog (knownG Tryz.prog In2.z) [(231, [MwE33])] 990 MwE34 = true := by kernel_rfl
theorem MwK34 [In2] : MwE34.Ok Tryz.prog K0 := Ent.ok_of mixed known_ok (Tab.ok_cons (f := 231) (Ent.ok_cons MwK33 Ent.ok_nil) Tab.ok_nil) MwT34
def MwE35 : Ent := ⟨93, (.cons (.ptr 93057 0) (.cons (nu 2) .nil)), ⟨[MwO215, MwO219], 93682⟩, (.agg (avs [(nu 13), (.sl 93975 0 1 8 true), .nils, (nu 0), (nu 0), (nu 0), (.str 0 0), (nu 0), (nu 18)])), ⟨[MwO215, MwO221, MwO222], 93979⟩⟩
theorem MwT35 [In2] : Ent.check Tryz.prog (knownG Tryz.prog In2.z) [] 990 MwE35 = true := by kernel_rfl
theorem MwK35 [In2] : MwE35.Ok Tryz.prog K0 := Ent.ok_of mixed known_ok Tab.ok_nil MwT35
def MwE36 : Ent := ⟨37, (.cons (.agg (avs [.nils, (.sl 94036 0 1 8 false)])) (.cons .nils (.cons (nu 2000) .nil))), ⟨[MwO223, MwO224, MwO225, MwO226, MwO227], 94207⟩, (.tup (avs [(.agg (avs [(nu 1), (nu 3), (.sl 94554 0 1 1 false), (nu 5), (nu 1)])), (nu 0)])), ⟨[MwO223, MwO224, MwO225, MwO226, MwO227, MwO228], 94690⟩⟩
theorem MwT36 [In2] : Ent.check Tryz.prog (knownG Tryz.prog In2.z) [] 990 MwE36 = true := by kernel_rfl
theorem MwK36 [In2] : MwE36.Ok Tryz.prog K0 := Ent.ok_of mixed known_ok Tab.ok_nil MwT36
def MwE37 : Ent := ⟨40, (.cons (.str 28 MwS1) (.cons .nils .nil)), ⟨[], 82726⟩, (.agg (avs [(nu 1), (nu 3), (.sl 94554 0 1 1 false), (nu 5), (nu 1)])), ⟨[MwO228], 94691⟩⟩
theorem MwT37 [In2] : Ent.check Tryz.prog (knownG Tryz.prog In2.z) [(18, [MwE32]), (93, [MwE34, MwE35]), (37, [MwE36])] 990 MwE37 = true := by kernel_rfl
theorem MwK37 [In2] : MwE37.Ok Tryz.prog K0 := Ent.ok_of mixed known_ok (Tab.ok_cons (f := 18) (Ent.ok_cons MwK32 Ent.ok_nil) (Tab.ok_cons (f := 93) (Ent.ok_cons MwK34 (Ent.ok_cons MwK35 Ent.ok_nil)) (Tab.ok_cons (f := 37) (Ent.ok_cons MwK36 Ent.ok_nil) Tab.ok_nil))) MwT37
end Go.Proofs.YtlpmpjechbkpkaaGreat

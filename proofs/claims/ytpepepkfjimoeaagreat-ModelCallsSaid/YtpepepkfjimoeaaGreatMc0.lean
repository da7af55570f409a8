/- Calls that were proved one by one: what the evaluator says. -/
import Derived.Test.YtpepepkfjimoeaaGreatMcO
import Derived.Test.YtpepepkfjimoeaaGreatMcOx1
import Derived.Test.YtpepepkfjimoeaaGreatMcOx2
import Derived.Test.YtpepepkfjimoeaaGreatProg
import Derived.ProofKit
import Derived.Test.YtpepepkfjimoeaaGreatVh
namespace Go.Proofs.YtpepepkfjimoeaaGreat
open Go.Proofs.YtpepepkfjimoeaaGreat.Ev
set_option maxRecDepth 100000

def McE0 : Ent := ⟨22, (.cons (.str 63 25620643508578078049263801126287155745367255095609975301718053121413220433038743496502144091451550480767265293882312321190695518161851509621082062876265) .nil), ⟨[], 5⟩, (.tup (avs [(.sl 28884 0 44 4 false), (.agg (avs [(nu 0), (nu 0)]))])), ⟨[McO0, McO1, McO2, McO3, McO4, McO5, McO6, McO7, McO8, McO9, McO10, McO11, McO12, McO13, McO14, McO15, McO16, McO17, McO18, McO19, McO20, McO21, McO22, McO23, McO24, McO25, McO26, McO27, McO28, McO29, McO30, McO31, McO32, McO33, McO34, McO35, McO36, McO37, McO38, McO39, McO40, McO41, McO42, McO43], 28885⟩⟩
theorem McT0 : Ent.check Tryz.prog [] 990 McE0 = true := by kernel_rfl
theorem McK0 : McE0.Ok Tryz.prog := Ent.ok_of mixed Tab.ok_nil McT0
def McE1 : Ent := ⟨171, (.cons (.ptr 28886 0) (.cons (nu 3) (.cons (nu 5) .nil))), ⟨[McO0, McO1, McO2, McO3, McO4, McO5, McO6, McO7, McO8, McO9, McO10, McO11, McO12, McO13, McO14, McO15, McO16, McO17, McO18, McO19, McO20, McO21, McO22, McO23, McO24, McO25, McO26, McO27, McO28, McO29, McO30, McO31, McO32, McO33, McO34, McO35, McO36, McO37, McO38, McO39, McO40, McO41, McO42, McO43, McO44], 28972⟩, (.agg (avs [(nu 22), (nu 0), (nu 0), (nu 0), (.str 0 0), (nu 0), (.sl 29203 0 2 8 true), (nu 21)])), ⟨[McO0, McO1, McO2, McO3, McO4, McO5, McO6, McO7, McO8, McO9, McO10, McO11, McO12, McO13, McO14, McO15, McO16, McO17, McO18, McO19, McO20, McO21, McO22, McO23, McO24, McO25, McO26, McO27, McO28, McO29, McO30, McO31, McO32, McO33, McO34, McO35, McO36, McO37, McO38, McO39, McO40, McO41, McO42, McO43, McO45, McO46], 29275⟩⟩
theorem McT1 : Ent.check Tryz.prog [] 990 McE1 = true := by kernel_rfl
theorem McK1 : McE1.Ok Tryz.prog := Ent.ok_of mixed Tab.ok_nil McT1
def McE2 : Ent := ⟨171, (.cons (.ptr 28886 0) (.cons (nu 5) (.cons (nu 4) .nil))), ⟨[McO0, McO1, McO2, McO3, McO4, McO5, McO6, McO7, McO8, McO9, McO10, McO11, McO12, McO13, McO14, McO15, McO16, McO17, McO18, McO19, McO20, McO21, McO22, McO23, McO24, McO25, McO26, McO27, McO28, McO29, McO30, McO31, McO32, McO33, McO34, McO35, McO36, McO37, McO38, McO39, McO40, McO41, McO42, McO43, McO47], 29727⟩, (.agg (avs [(nu 19), (nu 0), (nu 0), (nu 0), (.str 0 0), (nu 0), (.sl 29865 0 2 8 true), (nu 29)])), ⟨[McO0, McO1, McO2, McO3, McO4, McO5, McO6, McO7, McO8, McO9, McO10, McO11, McO12, McO13, McO14, McO15, McO16, McO17, McO18, McO19, McO20, McO21, McO22, McO23, McO24, McO25, McO26, McO27, McO28, McO29, McO30, McO31, McO32, McO33, McO34, McO35, McO36, McO37, McO38, McO39, McO40, McO41, McO42, McO43, McO48, McO49], 30006⟩⟩
theorem McT2 : Ent.check Tryz.prog [] 990 McE2 = true := by kernel_rfl
theorem McK2 : McE2.Ok Tryz.prog := Ent.ok_of mixed Tab.ok_nil McT2
def McE3 : Ent := ⟨171, (.cons (.ptr 28886 0) (.cons (nu 5) (.cons (nu 4) .nil))), ⟨[McO0, McO1, McO2, McO3, McO4, McO5, McO6, McO7, McO8, McO9, McO10, McO11, McO12, McO13, McO14, McO15, McO16, McO17, McO18, McO19, McO20, McO21, McO22, McO23, McO24, McO25, McO26, McO27, McO28, McO29, McO30, McO31, McO32, McO33, McO34, McO35, McO36, McO37, McO38, McO39, McO40, McO41, McO42, McO43, McO50], 30206⟩, (.agg (avs [(nu 19), (nu 0), (nu 0), (nu 0), (.str 0 0), (nu 0), (.sl 30344 0 2 8 true), (nu 36)])), ⟨[McO0, McO1, McO2, McO3, McO4, McO5, McO6, McO7, McO8, McO9, McO10, McO11, McO12, McO13, McO14, McO15, McO16, McO17, McO18, McO19, McO20, McO21, McO22, McO23, McO24, McO25, McO26, McO27, McO28, McO29, McO30, McO31, McO32, McO33, McO34, McO35, McO36, McO37, McO38, McO39, McO40, McO41, McO42, McO43, McO51, McO52], 30485⟩⟩
theorem McT3 : Ent.check Tryz.prog [] 990 McE3 = true := by kernel_rfl
theorem McK3 : McE3.Ok Tryz.prog := Ent.ok_of mixed Tab.ok_nil McT3
def McE4 : Ent := ⟨171, (.cons (.ptr 28886 0) (.cons (nu 4) (.cons (nu 8) .nil))), ⟨[McO0, McO1, McO2, McO3, McO4, McO5, McO6, McO7, McO8, McO9, McO10, McO11, McO12, McO13, McO14, McO15, McO16, McO17, McO18, McO19, McO20, McO21, McO22, McO23, McO24, McO25, McO26, McO27, McO28, McO29, McO30, McO31, McO32, McO33, McO34, McO35, McO36, McO37, McO38, McO39, McO40, McO41, McO42, McO43, McO53], 29684⟩, (.agg (avs [(nu 18), (nu 0), (nu 0), (nu 0), (.str 0 0), (nu 0), (.sl 30624 0 2 8 true), (nu 32)])), ⟨[McO0, McO1, McO2, McO3, McO4, McO5, McO6, McO7, McO8, McO9, McO10, McO11, McO12, McO13, McO14, McO15, McO16, McO17, McO18, McO19, McO20, McO21, McO22, McO23, McO24, McO25, McO26, McO27, McO28, McO29, McO30, McO31, McO32, McO33, McO34, McO35, McO36, McO37, McO38, McO39, McO40, McO41, McO42, McO43, McO54, McO49, McO55, McO52, McO56, McO57], 30673⟩⟩
theorem McT4 : Ent.check Tryz.prog [(171, [McE2, McE3])] 990 McE4 = true := by kernel_rfl
theorem McK4 : McE4.Ok Tryz.prog := Ent.ok_of mixed (Tab.ok_cons (f := 171) (Ent.ok_cons McK2 (Ent.ok_cons McK3 Ent.ok_nil)) Tab.ok_nil) McT4
end Go.Proofs.YtpepepkfjimoeaaGreat

/- Calls that were proved one by one: what the evaluator says. -/
import Derived.Test.YtpepepkfjimoeaaGreatMfO
import Derived.Test.YtpepepkfjimoeaaGreatMfOx1
import Derived.Test.YtpepepkfjimoeaaGreatProg
import Derived.ProofKit
import Derived.Test.YtpepepkfjimoeaaGreatVh
namespace Go.Proofs.YtpepepkfjimoeaaGreat
open Go.Proofs.YtpepepkfjimoeaaGreat.Ev
set_option maxRecDepth 100000

def MfE0 : Ent := ⟨22, (.cons (.str 41 267492007436066897895906808890017780362391689475984384779697518308156609129965007322666368754806377) .nil), ⟨[], 22⟩, (.tup (avs [(.sl 17544 0 28 4 false), (.agg (avs [(nu 0), (nu 0)]))])), ⟨[MfO0, MfO1, MfO2, MfO3, MfO4, MfO5, MfO6, MfO7, MfO8, MfO9, MfO10, MfO11, MfO12, MfO13, MfO14, MfO15, MfO16, MfO17, MfO18, MfO19, MfO20, MfO21, MfO22, MfO23, MfO24, MfO25, MfO26, MfO27], 17545⟩⟩
theorem MfT0 : Ent.check Tryz.prog [] 990 MfE0 = true := by kernel_rfl
theorem MfK0 : MfE0.Ok Tryz.prog := Ent.ok_of mixed Tab.ok_nil MfT0
def MfE1 : Ent := ⟨114, (.cons (.ptr 17546 0) (.cons (nu 3) .nil)), ⟨[MfO0, MfO1, MfO2, MfO3, MfO4, MfO5, MfO6, MfO7, MfO8, MfO9, MfO10, MfO11, MfO12, MfO13, MfO14, MfO15, MfO16, MfO17, MfO18, MfO19, MfO20, MfO21, MfO22, MfO23, MfO24, MfO25, MfO26, MfO27, MfO28], 17632⟩, (.agg (avs [(nu 34), (nu 0), (nu 0), (nu 0), (.str 0 0), (nu 0), (.sl 18188 0 2 8 true), (nu 22)])), ⟨[MfO0, MfO1, MfO2, MfO3, MfO4, MfO5, MfO6, MfO7, MfO8, MfO9, MfO10, MfO11, MfO12, MfO13, MfO14, MfO15, MfO16, MfO17, MfO18, MfO19, MfO20, MfO21, MfO22, MfO23, MfO24, MfO25, MfO26, MfO27, MfO29, MfO30], 18195⟩⟩
theorem MfT1 : Ent.check Tryz.prog [] 990 MfE1 = true := by kernel_rfl
theorem MfK1 : MfE1.Ok Tryz.prog := Ent.ok_of mixed Tab.ok_nil MfT1
def MfE2 : Ent := ⟨171, (.cons (.ptr 17546 0) (.cons (nu 3) (.cons (nu 5) .nil))), ⟨[MfO0, MfO1, MfO2, MfO3, MfO4, MfO5, MfO6, MfO7, MfO8, MfO9, MfO10, MfO11, MfO12, MfO13, MfO14, MfO15, MfO16, MfO17, MfO18, MfO19, MfO20, MfO21, MfO22, MfO23, MfO24, MfO25, MfO26, MfO27, MfO31], 18209⟩, (.agg (avs [(nu 22), (nu 0), (nu 0), (nu 0), (.str 0 0), (nu 0), (.sl 18440 0 2 8 true), (nu 26)])), ⟨[MfO0, MfO1, MfO2, MfO3, MfO4, MfO5, MfO6, MfO7, MfO8, MfO9, MfO10, MfO11, MfO12, MfO13, MfO14, MfO15, MfO16, MfO17, MfO18, MfO19, MfO20, MfO21, MfO22, MfO23, MfO24, MfO25, MfO26, MfO27, MfO32, MfO33], 18512⟩⟩
theorem MfT2 : Ent.check Tryz.prog [] 990 MfE2 = true := by kernel_rfl
theorem MfK2 : MfE2.Ok Tryz.prog := Ent.ok_of mixed Tab.ok_nil MfT2
def MfE3 : Ent := ⟨222, (.cons (.ptr 17546 0) (.cons (nu 4) .nil)), ⟨[MfO0, MfO1, MfO2, MfO3, MfO4, MfO5, MfO6, MfO7, MfO8, MfO9, MfO10, MfO11, MfO12, MfO13, MfO14, MfO15, MfO16, MfO17, MfO18, MfO19, MfO20, MfO21, MfO22, MfO23, MfO24, MfO25, MfO26, MfO27, MfO34], 18971⟩, (.agg (avs [(nu 35), (nu 0), (nu 0), (nu 0), (.str 3 7632240), (nu 0), (.sl 19268 0 1 8 false), (nu 33)])), ⟨[MfO0, MfO1, MfO2, MfO3, MfO4, MfO5, MfO6, MfO7, MfO8, MfO9, MfO10, MfO11, MfO12, MfO13, MfO14, MfO15, MfO16, MfO17, MfO18, MfO19, MfO20, MfO21, MfO22, MfO23, MfO24, MfO25, MfO26, MfO27, MfO35, MfO36], 19278⟩⟩
theorem MfT3 : Ent.check Tryz.prog [] 990 MfE3 = true := by kernel_rfl
theorem MfK3 : MfE3.Ok Tryz.prog := Ent.ok_of mixed Tab.ok_nil MfT3
def MfE4 : Ent := ⟨87, (.cons (.ptr 17546 0) (.cons (nu 3) .nil)), ⟨[MfO0, MfO1, MfO2, MfO3, MfO4, MfO5, MfO6, MfO7, MfO8, MfO9, MfO10, MfO11, MfO12, MfO13, MfO14, MfO15, MfO16, MfO17, MfO18, MfO19, MfO20, MfO21, MfO22, MfO23, MfO24, MfO25, MfO26, MfO27, MfO34], 18929⟩, (.agg (avs [(nu 1), (.sl 19515 0 1 8 true), .nils, (nu 0), (nu 0), (nu 0), (.str 0 0), (nu 0), (nu 33)])), ⟨[MfO0, MfO1, MfO2, MfO3, MfO4, MfO5, MfO6, MfO7, MfO8, MfO9, MfO10, MfO11, MfO12, MfO13, MfO14, MfO15, MfO16, MfO17, MfO18, MfO19, MfO20, MfO21, MfO22, MfO23, MfO24, MfO25, MfO26, MfO27, MfO37, MfO36, MfO38], 19519⟩⟩
theorem MfT4 : Ent.check Tryz.prog [(222, [MfE3])] 990 MfE4 = true := by kernel_rfl
theorem MfK4 : MfE4.Ok Tryz.prog := Ent.ok_of mixed (Tab.ok_cons (f := 222) (Ent.ok_cons MfK3 Ent.ok_nil) Tab.ok_nil) MfT4
def MfE5 : Ent := ⟨87, (.cons (.ptr 17546 0) (.cons (nu 2) .nil)), ⟨[MfO0, MfO1, MfO2, MfO3, MfO4, MfO5, MfO6, MfO7, MfO8, MfO9, MfO10, MfO11, MfO12, MfO13, MfO14, MfO15, MfO16, MfO17, MfO18, MfO19, MfO20, MfO21, MfO22, MfO23, MfO24, MfO25, MfO26, MfO27, MfO39], 17614⟩, (.agg (avs [(nu 7), (.sl 18928 0 3 8 true), (.sl 19519 0 1 9 true), (nu 0), (nu 0), (nu 0), (.str 0 0), (nu 0), (nu 17)])), ⟨[MfO0, MfO1, MfO2, MfO3, MfO4, MfO5, MfO6, MfO7, MfO8, MfO9, MfO10, MfO11, MfO12, MfO13, MfO14, MfO15, MfO16, MfO17, MfO18, MfO19, MfO20, MfO21, MfO22, MfO23, MfO24, MfO25, MfO26, MfO27, MfO37, MfO30, MfO33, MfO40, MfO41, MfO36, MfO38, MfO42], 19520⟩⟩
theorem MfT5 : Ent.check Tryz.prog [(114, [MfE1]), (171, [MfE2]), (87, [MfE4])] 990 MfE5 = true := by kernel_rfl
theorem MfK5 : MfE5.Ok Tryz.prog := Ent.ok_of mixed (Tab.ok_cons (f := 114) (Ent.ok_cons MfK1 Ent.ok_nil) (Tab.ok_cons (f := 171) (Ent.ok_cons MfK2 Ent.ok_nil) (Tab.ok_cons (f := 87) (Ent.ok_cons MfK4 Ent.ok_nil) Tab.ok_nil))) MfT5
def MfE6 : Ent := ⟨105, (.cons (.ptr 19618 0) (.cons (.sl 19615 0 2 9 false) .nil)), ⟨[MfO43, MfO44, MfO45, MfO46, MfO47, MfO48, MfO49, MfO50, MfO51, MfO52, MfO53, MfO54, MfO55, MfO56, MfO57, MfO58], 19646⟩, (.tup (avs [])), ⟨[MfO59, MfO60, MfO61, MfO62, MfO63, MfO64, MfO54, MfO65, MfO66, MfO67, MfO68, MfO69, MfO70], 20099⟩⟩
theorem MfT6 : Ent.check Tryz.prog [] 990 MfE6 = true := by kernel_rfl
theorem MfK6 : MfE6.Ok Tryz.prog := Ent.ok_of mixed Tab.ok_nil MfT6
def MfE7 : Ent := ⟨19, (.cons (.str 41 267492007436066897895906808890017780362391689475984384779697518308156609129965007322666368754806377) .nil), ⟨[], 19⟩, (.tup (avs [(.agg (avs [.nils, (.sl 19617 0 1 8 false)])), (.bool true)])), ⟨[MfO59, MfO60, MfO61, MfO62, MfO63, MfO64, MfO54, MfO65, MfO66, MfO70], 20118⟩⟩
theorem MfT7 : Ent.check Tryz.prog [(22, [MfE0]), (87, [MfE5]), (105, [MfE6])] 990 MfE7 = true := by kernel_rfl
theorem MfK7 : MfE7.Ok Tryz.prog := Ent.ok_of mixed (Tab.ok_cons (f := 22) (Ent.ok_cons MfK0 Ent.ok_nil) (Tab.ok_cons (f := 87) (Ent.ok_cons MfK5 Ent.ok_nil) (Tab.ok_cons (f := 105) (Ent.ok_cons MfK6 Ent.ok_nil) Tab.ok_nil))) MfT7
def MfE8 : Ent := ⟨67, (.cons (.ptr 20249 0) (.cons (.sl 20168 0 2 9 false) .nil)), ⟨[MfO71, MfO72, MfO73, MfO74, MfO75, MfO76, MfO77, MfO78, MfO79, MfO80, MfO81, MfO82, MfO83], 20271⟩, (.tup (avs [])), ⟨[MfO84, MfO72, MfO73, MfO74, MfO75, MfO76, MfO77, MfO78, MfO79, MfO85, MfO86, MfO82, MfO83, MfO87], 20627⟩⟩
theorem MfT8 : Ent.check Tryz.prog [] 990 MfE8 = true := by kernel_rfl
theorem MfK8 : MfE8.Ok Tryz.prog := Ent.ok_of mixed Tab.ok_nil MfT8
end Go.Proofs.YtpepepkfjimoeaaGreat

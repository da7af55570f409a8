/- Calls that were proved one by one: what the evaluator says. -/
import Derived.Test.YtpepepkfjimoeaaGreatMnO
import Derived.Test.YtpepepkfjimoeaaGreatMnOx1
import Derived.Test.YtpepepkfjimoeaaGreatProg
import Derived.ProofKit
import Derived.Test.YtpepepkfjimoeaaGreatVh
namespace Go.Proofs.YtpepepkfjimoeaaGreat
open Go.Proofs.YtpepepkfjimoeaaGreat.Ev
set_option maxRecDepth 100000

def MnE0 : Ent := ⟨22, (.cons (.str 30 864313287974634832214061674528127338318483272576647752422994459497885289) .nil), ⟨[], 24⟩, (.tup (avs [(.sl 11455 0 17 4 false), (.agg (avs [(nu 0), (nu 0)]))])), ⟨[MnO0, MnO1, MnO2, MnO3, MnO4, MnO5, MnO6, MnO7, MnO8, MnO9, MnO10, MnO11, MnO12, MnO13, MnO14, MnO15, MnO16], 11456⟩⟩
theorem MnT0 : Ent.check Tryz.prog [] 990 MnE0 = true := by kernel_rfl
theorem MnK0 : MnE0.Ok Tryz.prog := Ent.ok_of mixed Tab.ok_nil MnT0
def MnE1 : Ent := ⟨87, (.cons (.ptr 11457 0) (.cons (nu 2) .nil)), ⟨[MnO0, MnO1, MnO2, MnO3, MnO4, MnO5, MnO6, MnO7, MnO8, MnO9, MnO10, MnO11, MnO12, MnO13, MnO14, MnO15, MnO16, MnO17], 11491⟩, (.agg (avs [(nu 2), (.sl 11793 0 1 8 true), .nils, (nu 1), (nu 0), (nu 0), (.str 1 97), (nu 0), (nu 11)])), ⟨[MnO0, MnO1, MnO2, MnO3, MnO4, MnO5, MnO6, MnO7, MnO8, MnO9, MnO10, MnO11, MnO12, MnO13, MnO14, MnO15, MnO16, MnO18, MnO19], 11797⟩⟩
theorem MnT1 : Ent.check Tryz.prog [] 990 MnE1 = true := by kernel_rfl
theorem MnK1 : MnE1.Ok Tryz.prog := Ent.ok_of mixed Tab.ok_nil MnT1
def MnE2 : Ent := ⟨222, (.cons (.ptr 11457 0) (.cons (nu 3) .nil)), ⟨[MnO0, MnO1, MnO2, MnO3, MnO4, MnO5, MnO6, MnO7, MnO8, MnO9, MnO10, MnO11, MnO12, MnO13, MnO14, MnO15, MnO16, MnO18], 11842⟩, (.agg (avs [(nu 35), (nu 0), (nu 0), (nu 0), (.str 3 7632240), (nu 0), (.sl 12139 0 1 8 false), (nu 22)])), ⟨[MnO0, MnO1, MnO2, MnO3, MnO4, MnO5, MnO6, MnO7, MnO8, MnO9, MnO10, MnO11, MnO12, MnO13, MnO14, MnO15, MnO16, MnO20, MnO21], 12149⟩⟩
theorem MnT2 : Ent.check Tryz.prog [] 990 MnE2 = true := by kernel_rfl
theorem MnK2 : MnE2.Ok Tryz.prog := Ent.ok_of mixed Tab.ok_nil MnT2
def MnE3 : Ent := ⟨87, (.cons (.ptr 11457 0) (.cons (nu 2) .nil)), ⟨[MnO0, MnO1, MnO2, MnO3, MnO4, MnO5, MnO6, MnO7, MnO8, MnO9, MnO10, MnO11, MnO12, MnO13, MnO14, MnO15, MnO16, MnO18], 11800⟩, (.agg (avs [(nu 1), (.sl 12386 0 1 8 true), .nils, (nu 0), (nu 0), (nu 0), (.str 0 0), (nu 0), (nu 22)])), ⟨[MnO0, MnO1, MnO2, MnO3, MnO4, MnO5, MnO6, MnO7, MnO8, MnO9, MnO10, MnO11, MnO12, MnO13, MnO14, MnO15, MnO16, MnO22, MnO21, MnO23], 12390⟩⟩
theorem MnT3 : Ent.check Tryz.prog [(222, [MnE2])] 990 MnE3 = true := by kernel_rfl
theorem MnK3 : MnE3.Ok Tryz.prog := Ent.ok_of mixed (Tab.ok_cons (f := 222) (Ent.ok_cons MnK2 Ent.ok_nil) Tab.ok_nil) MnT3
def MnE4 : Ent := ⟨19, (.cons (.str 30 864313287974634832214061674528127338318483272576647752422994459497885289) .nil), ⟨[], 21⟩, (.tup (avs [(.agg (avs [.nils, (.sl 12447 0 1 8 false)])), (.bool true)])), ⟨[MnO24, MnO25, MnO26, MnO27, MnO28, MnO29], 12690⟩⟩
theorem MnT4 : Ent.check Tryz.prog [(22, [MnE0]), (87, [MnE1, MnE3])] 990 MnE4 = true := by kernel_rfl
theorem MnK4 : MnE4.Ok Tryz.prog := Ent.ok_of mixed (Tab.ok_cons (f := 22) (Ent.ok_cons MnK0 Ent.ok_nil) (Tab.ok_cons (f := 87) (Ent.ok_cons MnK1 (Ent.ok_cons MnK3 Ent.ok_nil)) Tab.ok_nil)) MnT4
def MnE5 : Ent := ⟨20, (.cons (.agg (avs [.nils, (.sl 12447 0 1 8 false)])) (.cons .nils (.cons (nu 2000) .nil))), ⟨[MnO24, MnO25, MnO26, MnO27, MnO28, MnO29], 12691⟩, (.tup (avs [(.agg (avs [(nu 1), (nu 0), (.sl 13307 0 1 1 false), (nu 7), (nu 1)])), (nu 0)])), ⟨[MnO24, MnO25, MnO26, MnO27, MnO28, MnO29, MnO30], 13368⟩⟩
theorem MnT5 : Ent.check Tryz.prog [] 990 MnE5 = true := by kernel_rfl
theorem MnK5 : MnE5.Ok Tryz.prog := Ent.ok_of mixed Tab.ok_nil MnT5
def MnE6 : Ent := ⟨22, (.cons (.str 39 4081604101830275111858372396560784478464216546070111094518072530492790760182794142897566674537) .nil), ⟨[], 13401⟩, (.tup (avs [(.sl 24840 0 18 4 false), (.agg (avs [(nu 0), (nu 0)]))])), ⟨[MnO31, MnO32, MnO33, MnO34, MnO35, MnO36, MnO37, MnO38, MnO39, MnO40, MnO41, MnO42, MnO43, MnO44, MnO45, MnO46, MnO47, MnO48], 24841⟩⟩
theorem MnT6 : Ent.check Tryz.prog [] 990 MnE6 = true := by kernel_rfl
theorem MnK6 : MnE6.Ok Tryz.prog := Ent.ok_of mixed Tab.ok_nil MnT6
def MnE7 : Ent := ⟨87, (.cons (.ptr 24842 0) (.cons (nu 2) .nil)), ⟨[MnO31, MnO32, MnO33, MnO34, MnO35, MnO36, MnO37, MnO38, MnO39, MnO40, MnO41, MnO42, MnO43, MnO44, MnO45, MnO46, MnO47, MnO48, MnO49], 24876⟩, (.agg (avs [(nu 2), (.sl 25180 0 1 8 true), .nils, (nu 2), (nu 0), (nu 0), (.str 1 97), (nu 0), (nu 11)])), ⟨[MnO31, MnO32, MnO33, MnO34, MnO35, MnO36, MnO37, MnO38, MnO39, MnO40, MnO41, MnO42, MnO43, MnO44, MnO45, MnO46, MnO47, MnO48, MnO50, MnO51], 25184⟩⟩
theorem MnT7 : Ent.check Tryz.prog [] 990 MnE7 = true := by kernel_rfl
theorem MnK7 : MnE7.Ok Tryz.prog := Ent.ok_of mixed Tab.ok_nil MnT7
def MnE8 : Ent := ⟨222, (.cons (.ptr 24842 0) (.cons (nu 3) .nil)), ⟨[MnO31, MnO32, MnO33, MnO34, MnO35, MnO36, MnO37, MnO38, MnO39, MnO40, MnO41, MnO42, MnO43, MnO44, MnO45, MnO46, MnO47, MnO48, MnO50], 25229⟩, (.agg (avs [(nu 35), (nu 0), (nu 0), (nu 0), (.str 3 7632240), (nu 0), (.sl 25526 0 1 8 false), (nu 31)])), ⟨[MnO31, MnO32, MnO33, MnO34, MnO35, MnO36, MnO37, MnO38, MnO39, MnO40, MnO41, MnO42, MnO43, MnO44, MnO45, MnO46, MnO47, MnO48, MnO52, MnO53], 25536⟩⟩
theorem MnT8 : Ent.check Tryz.prog [] 990 MnE8 = true := by kernel_rfl
theorem MnK8 : MnE8.Ok Tryz.prog := Ent.ok_of mixed Tab.ok_nil MnT8
end Go.Proofs.YtpepepkfjimoeaaGreat

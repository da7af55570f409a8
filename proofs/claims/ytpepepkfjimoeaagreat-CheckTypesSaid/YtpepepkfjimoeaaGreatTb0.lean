/- Calls that were proved one by one: what the evaluator says. -/
import Derived.Test.YtpepepkfjimoeaaGreatTbO
import Derived.Test.YtpepepkfjimoeaaGreatProg
import Derived.ProofKit
import Derived.Test.YtpepepkfjimoeaaGreatVh
namespace Go.Proofs.YtpepepkfjimoeaaGreat
open Go.Proofs.YtpepepkfjimoeaaGreat.Ev
set_option maxRecDepth 100000

def TbE0 : Ent := ⟨22, (.cons (.str 19 2792765825132557113248408143582353843385822825) .nil), ⟨[], 4⟩, (.tup (avs [(.sl 6587 0 10 4 false), (.agg (avs [(nu 0), (nu 0)]))])), ⟨[TbO0, TbO1, TbO2, TbO3, TbO4, TbO5, TbO6, TbO7, TbO8, TbO9], 6588⟩⟩
theorem TbT0 : Ent.check Tryz.prog [] 990 TbE0 = true := by kernel_rfl
theorem TbK0 : TbE0.Ok Tryz.prog := Ent.ok_of mixed Tab.ok_nil TbT0
def TbE1 : Ent := ⟨22, (.cons (.str 22 46854562101861445911175617329305318282242771448524393) .nil), ⟨[], 6841⟩, (.tup (avs [(.sl 16479 0 15 4 false), (.agg (avs [(nu 0), (nu 0)]))])), ⟨[TbO10, TbO11, TbO12, TbO13, TbO14, TbO15, TbO16, TbO17, TbO18, TbO19, TbO20, TbO21, TbO22, TbO23, TbO24], 16480⟩⟩
theorem TbT1 : Ent.check Tryz.prog [] 990 TbE1 = true := by kernel_rfl
theorem TbK1 : TbE1.Ok Tryz.prog := Ent.ok_of mixed Tab.ok_nil TbT1
def TbE2 : Ent := ⟨171, (.cons (.ptr 16481 0) (.cons (nu 3) (.cons (nu 3) .nil))), ⟨[TbO10, TbO11, TbO12, TbO13, TbO14, TbO15, TbO16, TbO17, TbO18, TbO19, TbO20, TbO21, TbO22, TbO23, TbO24, TbO25], 16573⟩, (.agg (avs [(nu 2), (nu 0), (nu 0), (nu 0), (.str 1 112), (nu 0), .nils, (nu 17)])), ⟨[TbO10, TbO11, TbO12, TbO13, TbO14, TbO15, TbO16, TbO17, TbO18, TbO19, TbO20, TbO21, TbO22, TbO23, TbO24, TbO26], 16768⟩⟩
theorem TbT2 : Ent.check Tryz.prog [] 990 TbE2 = true := by kernel_rfl
theorem TbK2 : TbE2.Ok Tryz.prog := Ent.ok_of mixed Tab.ok_nil TbT2
def TbE3 : Ent := ⟨171, (.cons (.ptr 16481 0) (.cons (nu 4) (.cons (nu 3) .nil))), ⟨[TbO10, TbO11, TbO12, TbO13, TbO14, TbO15, TbO16, TbO17, TbO18, TbO19, TbO20, TbO21, TbO22, TbO23, TbO24, TbO27], 16849⟩, (.agg (avs [(nu 1), (nu 0), (nu 0), (nu 0), (.str 0 0), (nu 1), .nils, (nu 19)])), ⟨[TbO10, TbO11, TbO12, TbO13, TbO14, TbO15, TbO16, TbO17, TbO18, TbO19, TbO20, TbO21, TbO22, TbO23, TbO24, TbO28], 17042⟩⟩
theorem TbT3 : Ent.check Tryz.prog [] 990 TbE3 = true := by kernel_rfl
theorem TbK3 : TbE3.Ok Tryz.prog := Ent.ok_of mixed Tab.ok_nil TbT3
def TbE4 : Ent := ⟨87, (.cons (.ptr 16481 0) (.cons (nu 2) .nil)), ⟨[TbO10, TbO11, TbO12, TbO13, TbO14, TbO15, TbO16, TbO17, TbO18, TbO19, TbO20, TbO21, TbO22, TbO23, TbO24, TbO25], 16552⟩, (.agg (avs [(nu 1), (.sl 17131 0 1 8 true), .nils, (nu 0), (nu 0), (nu 0), (.str 0 0), (nu 0), (nu 17)])), ⟨[TbO10, TbO11, TbO12, TbO13, TbO14, TbO15, TbO16, TbO17, TbO18, TbO19, TbO20, TbO21, TbO22, TbO23, TbO24, TbO29, TbO30, TbO31], 17135⟩⟩
theorem TbT4 : Ent.check Tryz.prog [(171, [TbE2, TbE3])] 990 TbE4 = true := by kernel_rfl
theorem TbK4 : TbE4.Ok Tryz.prog := Ent.ok_of mixed (Tab.ok_cons (f := 171) (Ent.ok_cons TbK2 (Ent.ok_cons TbK3 Ent.ok_nil)) Tab.ok_nil) TbT4
def TbE5 : Ent := ⟨23, (.cons (.ptr 16481 0) .nil), ⟨[TbO10, TbO11, TbO12, TbO13, TbO14, TbO15, TbO16, TbO17, TbO18, TbO19, TbO20, TbO21, TbO22, TbO23, TbO24, TbO32], 16482⟩, (.tup (avs [])), ⟨[TbO10, TbO11, TbO12, TbO13, TbO14, TbO15, TbO16, TbO17, TbO18, TbO19, TbO20, TbO21, TbO22, TbO23, TbO24, TbO33, TbO34, TbO30, TbO31, TbO35, TbO36], 17155⟩⟩
theorem TbT5 : Ent.check Tryz.prog [(87, [TbE4])] 990 TbE5 = true := by kernel_rfl
theorem TbK5 : TbE5.Ok Tryz.prog := Ent.ok_of mixed (Tab.ok_cons (f := 87) (Ent.ok_cons TbK4 Ent.ok_nil) Tab.ok_nil) TbT5
def TbE6 : Ent := ⟨22, (.cons (.str 22 46854556392870675087336093096161440484262225917537897) .nil), ⟨[], 17478⟩, (.tup (avs [(.sl 27116 0 15 4 false), (.agg (avs [(nu 0), (nu 0)]))])), ⟨[TbO37, TbO38, TbO39, TbO40, TbO41, TbO42, TbO43, TbO44, TbO45, TbO46, TbO47, TbO48, TbO49, TbO50, TbO51], 27117⟩⟩
theorem TbT6 : Ent.check Tryz.prog [] 990 TbE6 = true := by kernel_rfl
theorem TbK6 : TbE6.Ok Tryz.prog := Ent.ok_of mixed Tab.ok_nil TbT6
def TbE7 : Ent := ⟨171, (.cons (.ptr 27118 0) (.cons (nu 3) (.cons (nu 3) .nil))), ⟨[TbO37, TbO38, TbO39, TbO40, TbO41, TbO42, TbO43, TbO44, TbO45, TbO46, TbO47, TbO48, TbO49, TbO50, TbO51, TbO52], 27210⟩, (.agg (avs [(nu 2), (nu 0), (nu 0), (nu 0), (.str 1 112), (nu 0), .nils, (nu 17)])), ⟨[TbO37, TbO38, TbO39, TbO40, TbO41, TbO42, TbO43, TbO44, TbO45, TbO46, TbO47, TbO48, TbO49, TbO50, TbO51, TbO53], 27405⟩⟩
theorem TbT7 : Ent.check Tryz.prog [] 990 TbE7 = true := by kernel_rfl
theorem TbK7 : TbE7.Ok Tryz.prog := Ent.ok_of mixed Tab.ok_nil TbT7
def TbE8 : Ent := ⟨171, (.cons (.ptr 27118 0) (.cons (nu 4) (.cons (nu 3) .nil))), ⟨[TbO37, TbO38, TbO39, TbO40, TbO41, TbO42, TbO43, TbO44, TbO45, TbO46, TbO47, TbO48, TbO49, TbO50, TbO51, TbO54], 27486⟩, (.agg (avs [(nu 1), (nu 0), (nu 0), (nu 0), (.str 0 0), (nu 0), .nils, (nu 19)])), ⟨[TbO37, TbO38, TbO39, TbO40, TbO41, TbO42, TbO43, TbO44, TbO45, TbO46, TbO47, TbO48, TbO49, TbO50, TbO51, TbO55], 27679⟩⟩
theorem TbT8 : Ent.check Tryz.prog [] 990 TbE8 = true := by kernel_rfl
theorem TbK8 : TbE8.Ok Tryz.prog := Ent.ok_of mixed Tab.ok_nil TbT8
def TbE9 : Ent := ⟨87, (.cons (.ptr 27118 0) (.cons (nu 2) .nil)), ⟨[TbO37, TbO38, TbO39, TbO40, TbO41, TbO42, TbO43, TbO44, TbO45, TbO46, TbO47, TbO48, TbO49, TbO50, TbO51, TbO52], 27189⟩, (.agg (avs [(nu 1), (.sl 27768 0 1 8 true), .nils, (nu 0), (nu 0), (nu 0), (.str 0 0), (nu 0), (nu 17)])), ⟨[TbO37, TbO38, TbO39, TbO40, TbO41, TbO42, TbO43, TbO44, TbO45, TbO46, TbO47, TbO48, TbO49, TbO50, TbO51, TbO56, TbO57, TbO58], 27772⟩⟩
theorem TbT9 : Ent.check Tryz.prog [(171, [TbE7, TbE8])] 990 TbE9 = true := by kernel_rfl
theorem TbK9 : TbE9.Ok Tryz.prog := Ent.ok_of mixed (Tab.ok_cons (f := 171) (Ent.ok_cons TbK7 (Ent.ok_cons TbK8 Ent.ok_nil)) Tab.ok_nil) TbT9
def TbE10 : Ent := ⟨23, (.cons (.ptr 27118 0) .nil), ⟨[TbO37, TbO38, TbO39, TbO40, TbO41, TbO42, TbO43, TbO44, TbO45, TbO46, TbO47, TbO48, TbO49, TbO50, TbO51, TbO59], 27119⟩, (.tup (avs [])), ⟨[TbO37, TbO38, TbO39, TbO40, TbO41, TbO42, TbO43, TbO44, TbO45, TbO46, TbO47, TbO48, TbO49, TbO50, TbO51, TbO60, TbO61, TbO57, TbO58, TbO62, TbO63], 27792⟩⟩
theorem TbT10 : Ent.check Tryz.prog [(87, [TbE9])] 990 TbE10 = true := by kernel_rfl
theorem TbK10 : TbE10.Ok Tryz.prog := Ent.ok_of mixed (Tab.ok_cons (f := 87) (Ent.ok_cons TbK9 Ent.ok_nil) Tab.ok_nil) TbT10
end Go.Proofs.YtpepepkfjimoeaaGreat

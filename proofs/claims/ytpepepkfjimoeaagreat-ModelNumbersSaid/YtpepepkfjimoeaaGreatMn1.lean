/- Calls that were proved one by one: what the evaluator says. -/
import Derived.Test.YtpepepkfjimoeaaGreatMnO
import Derived.Test.YtpepepkfjimoeaaGreatMnOx1
import Derived.Test.YtpepepkfjimoeaaGreatProg
import Derived.ProofKit
import Derived.Test.YtpepepkfjimoeaaGreatVh
import Derived.Test.YtpepepkfjimoeaaGreatMn0
namespace Go.Proofs.YtpepepkfjimoeaaGreat
open Go.Proofs.YtpepepkfjimoeaaGreat.Ev
set_option maxRecDepth 100000

def MnE9 : Ent := ⟨87, (.cons (.ptr 24842 0) (.cons (nu 2) .nil)), ⟨[MnO31, MnO32, MnO33, MnO34, MnO35, MnO36, MnO37, MnO38, MnO39, MnO40, MnO41, MnO42, MnO43, MnO44, MnO45, MnO46, MnO47, MnO48, MnO50], 25187⟩, (.agg (avs [(nu 1), (.sl 25773 0 1 8 true), .nils, (nu 0), (nu 0), (nu 0), (.str 0 0), (nu 0), (nu 31)])), ⟨[MnO31, MnO32, MnO33, MnO34, MnO35, MnO36, MnO37, MnO38, MnO39, MnO40, MnO41, MnO42, MnO43, MnO44, MnO45, MnO46, MnO47, MnO48, MnO54, MnO53, MnO55], 25777⟩⟩
theorem MnT9 : Ent.check Tryz.prog [(222, [MnE8])] 990 MnE9 = true := by kernel_rfl
theorem MnK9 : MnE9.Ok Tryz.prog := Ent.ok_of mixed (Tab.ok_cons (f := 222) (Ent.ok_cons MnK8 Ent.ok_nil) Tab.ok_nil) MnT9
def MnE10 : Ent := ⟨19, (.cons (.str 39 4081604101830275111858372396560784478464216546070111094518072530492790760182794142897566674537) .nil), ⟨[], 13398⟩, (.tup (avs [(.agg (avs [.nils, (.sl 25834 0 1 8 false)])), (.bool true)])), ⟨[MnO56, MnO57, MnO58, MnO59, MnO60, MnO61], 26077⟩⟩
theorem MnT10 : Ent.check Tryz.prog [(22, [MnE6]), (87, [MnE7, MnE9])] 990 MnE10 = true := by kernel_rfl
theorem MnK10 : MnE10.Ok Tryz.prog := Ent.ok_of mixed (Tab.ok_cons (f := 22) (Ent.ok_cons MnK6 Ent.ok_nil) (Tab.ok_cons (f := 87) (Ent.ok_cons MnK7 (Ent.ok_cons MnK9 Ent.ok_nil)) Tab.ok_nil)) MnT10
def MnE11 : Ent := ⟨20, (.cons (.agg (avs [.nils, (.sl 25834 0 1 8 false)])) (.cons .nils (.cons (nu 2000) .nil))), ⟨[MnO56, MnO57, MnO58, MnO59, MnO60, MnO61], 26078⟩, (.tup (avs [(.agg (avs [(nu 1), (nu 0), (.sl 26694 0 1 1 false), (nu 7), (nu 1)])), (nu 0)])), ⟨[MnO56, MnO57, MnO58, MnO59, MnO60, MnO61, MnO62], 26755⟩⟩
theorem MnT11 : Ent.check Tryz.prog [] 990 MnE11 = true := by kernel_rfl
theorem MnK11 : MnE11.Ok Tryz.prog := Ent.ok_of mixed Tab.ok_nil MnT11
def MnE12 : Ent := ⟨22, (.cons (.str 38 15943765658670073867280897329010218840342813783571479201942703864311224768795581277065735785) .nil), ⟨[], 26788⟩, (.tup (avs [(.sl 38958 0 20 4 false), (.agg (avs [(nu 0), (nu 0)]))])), ⟨[MnO63, MnO64, MnO65, MnO66, MnO67, MnO68, MnO69, MnO70, MnO71, MnO72, MnO73, MnO74, MnO75, MnO76, MnO77, MnO78, MnO79, MnO80, MnO81, MnO82], 38959⟩⟩
theorem MnT12 : Ent.check Tryz.prog [] 990 MnE12 = true := by kernel_rfl
theorem MnK12 : MnE12.Ok Tryz.prog := Ent.ok_of mixed Tab.ok_nil MnT12
def MnE13 : Ent := ⟨87, (.cons (.ptr 38960 0) (.cons (nu 2) .nil)), ⟨[MnO63, MnO64, MnO65, MnO66, MnO67, MnO68, MnO69, MnO70, MnO71, MnO72, MnO73, MnO74, MnO75, MnO76, MnO77, MnO78, MnO79, MnO80, MnO81, MnO82, MnO83], 38994⟩, (.agg (avs [(nu 2), (.sl 39300 0 1 8 true), .nils, (nu 6), (nu 0), (nu 0), (.str 1 97), (nu 0), (nu 11)])), ⟨[MnO63, MnO64, MnO65, MnO66, MnO67, MnO68, MnO69, MnO70, MnO71, MnO72, MnO73, MnO74, MnO75, MnO76, MnO77, MnO78, MnO79, MnO80, MnO81, MnO82, MnO84, MnO85], 39304⟩⟩
theorem MnT13 : Ent.check Tryz.prog [] 990 MnE13 = true := by kernel_rfl
theorem MnK13 : MnE13.Ok Tryz.prog := Ent.ok_of mixed Tab.ok_nil MnT13
def MnE14 : Ent := ⟨171, (.cons (.ptr 38960 0) (.cons (nu 4) (.cons (nu 4) .nil))), ⟨[MnO63, MnO64, MnO65, MnO66, MnO67, MnO68, MnO69, MnO70, MnO71, MnO72, MnO73, MnO74, MnO75, MnO76, MnO77, MnO78, MnO79, MnO80, MnO81, MnO82, MnO86], 39376⟩, (.agg (avs [(nu 19), (nu 0), (nu 0), (nu 0), (.str 0 0), (nu 0), (.sl 39514 0 2 8 true), (nu 33)])), ⟨[MnO63, MnO64, MnO65, MnO66, MnO67, MnO68, MnO69, MnO70, MnO71, MnO72, MnO73, MnO74, MnO75, MnO76, MnO77, MnO78, MnO79, MnO80, MnO81, MnO82, MnO87, MnO88], 39655⟩⟩
theorem MnT14 : Ent.check Tryz.prog [] 990 MnE14 = true := by kernel_rfl
theorem MnK14 : MnE14.Ok Tryz.prog := Ent.ok_of mixed Tab.ok_nil MnT14
def MnE15 : Ent := ⟨171, (.cons (.ptr 38960 0) (.cons (nu 3) (.cons (nu 2) .nil))), ⟨[MnO63, MnO64, MnO65, MnO66, MnO67, MnO68, MnO69, MnO70, MnO71, MnO72, MnO73, MnO74, MnO75, MnO76, MnO77, MnO78, MnO79, MnO80, MnO81, MnO82, MnO84], 39327⟩, (.agg (avs [(nu 35), (nu 0), (nu 0), (nu 0), (.str 3 7632240), (nu 0), (.sl 39754 0 1 8 false), (nu 28)])), ⟨[MnO63, MnO64, MnO65, MnO66, MnO67, MnO68, MnO69, MnO70, MnO71, MnO72, MnO73, MnO74, MnO75, MnO76, MnO77, MnO78, MnO79, MnO80, MnO81, MnO82, MnO89, MnO88, MnO90], 39948⟩⟩
theorem MnT15 : Ent.check Tryz.prog [(171, [MnE14])] 990 MnE15 = true := by kernel_rfl
theorem MnK15 : MnE15.Ok Tryz.prog := Ent.ok_of mixed (Tab.ok_cons (f := 171) (Ent.ok_cons MnK14 Ent.ok_nil) Tab.ok_nil) MnT15
def MnE16 : Ent := ⟨19, (.cons (.str 38 15943765658670073867280897329010218840342813783571479201942703864311224768795581277065735785) .nil), ⟨[], 26785⟩, (.tup (avs [(.agg (avs [.nils, (.sl 40072 0 1 8 false)])), (.bool true)])), ⟨[MnO91, MnO92, MnO93, MnO94, MnO95, MnO96, MnO97], 40378⟩⟩
theorem MnT16 : Ent.check Tryz.prog [(22, [MnE12]), (87, [MnE13]), (171, [MnE15])] 990 MnE16 = true := by kernel_rfl
theorem MnK16 : MnE16.Ok Tryz.prog := Ent.ok_of mixed (Tab.ok_cons (f := 22) (Ent.ok_cons MnK12 Ent.ok_nil) (Tab.ok_cons (f := 87) (Ent.ok_cons MnK13 Ent.ok_nil) (Tab.ok_cons (f := 171) (Ent.ok_cons MnK15 Ent.ok_nil) Tab.ok_nil))) MnT16
def MnE17 : Ent := ⟨31, (.cons (.agg (avs [.nils, (.sl 40072 0 1 8 false)])) .nil), ⟨[MnO91, MnO92, MnO93, MnO94, MnO95, MnO96, MnO97], 40381⟩, (.bool true), ⟨[MnO91, MnO92, MnO93, MnO94, MnO95, MnO96, MnO97], 40789⟩⟩
theorem MnT17 : Ent.check Tryz.prog [] 990 MnE17 = true := by kernel_rfl
theorem MnK17 : MnE17.Ok Tryz.prog := Ent.ok_of mixed Tab.ok_nil MnT17
end Go.Proofs.YtpepepkfjimoeaaGreat

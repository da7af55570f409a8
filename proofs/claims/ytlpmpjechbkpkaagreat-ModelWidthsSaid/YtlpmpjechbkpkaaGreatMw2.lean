/- Calls that were proved one by one: what the evaluator says. -/
import Derived.Test.YtlpmpjechbkpkaaGreatMwO
import Derived.Test.YtlpmpjechbkpkaaGreatProg
import Derived.ProofKit
import Derived.Test.YtlpmpjechbkpkaaGreatWdB
import Derived.Test.YtlpmpjechbkpkaaGreatMw1
namespace Go.Proofs.YtlpmpjechbkpkaaGreat
open Go.Proofs.YtlpmpjechbkpkaaGreat.Ev
set_option maxRecDepth 100000

def MwE15 : Ent := ⟨172, (.cons (.ptr 65659 0) (.cons (nu 3) (.cons (nu 4) .nil))), ⟨[MwO0, MwO38], 70055⟩, (.agg (avs [(nu 35), (nu 0), (nu 0), (nu 0), (.str 3 7632240), (nu 0), (.sl 70530 0 1 8 false), (nu 119)])), ⟨[MwO0, MwO39, MwO37, MwO40], 70678⟩⟩
theorem MwT15 [In2] : Ent.check Tryz.prog (knownG Tryz.prog In2.z) [(172, [MwE14])] 990 MwE15 = true := by kernel_rfl
theorem MwK15 [In2] : MwE15.Ok Tryz.prog K0 := Ent.ok_of mixed known_ok (Tab.ok_cons (f := 172) (Ent.ok_cons MwK14 Ent.ok_nil) Tab.ok_nil) MwT15
def MwE16 : Ent := ⟨172, (.cons (.ptr 65659 0) (.cons (nu 4) (.cons (nu 4) .nil))), ⟨[MwO0, MwO41], 70853⟩, (.agg (avs [(nu 18), (nu 0), (nu 0), (nu 0), (.str 0 0), (nu 0), (.sl 70993 0 2 8 true), (nu 133)])), ⟨[MwO0, MwO42, MwO43], 71134⟩⟩
theorem MwT16 [In2] : Ent.check Tryz.prog (knownG Tryz.prog In2.z) [] 990 MwE16 = true := by kernel_rfl
theorem MwK16 [In2] : MwE16.Ok Tryz.prog K0 := Ent.ok_of mixed known_ok Tab.ok_nil MwT16
def MwE17 : Ent := ⟨172, (.cons (.ptr 65659 0) (.cons (nu 3) (.cons (nu 2) .nil))), ⟨[MwO0, MwO44], 70804⟩, (.agg (avs [(nu 35), (nu 0), (nu 0), (nu 0), (.str 3 7632240), (nu 0), (.sl 71233 0 1 8 false), (nu 128)])), ⟨[MwO0, MwO45, MwO43, MwO46], 71427⟩⟩
theorem MwT17 [In2] : Ent.check Tryz.prog (knownG Tryz.prog In2.z) [(172, [MwE16])] 990 MwE17 = true := by kernel_rfl
theorem MwK17 [In2] : MwE17.Ok Tryz.prog K0 := Ent.ok_of mixed known_ok (Tab.ok_cons (f := 172) (Ent.ok_cons MwK16 Ent.ok_nil) Tab.ok_nil) MwT17
def MwE18 : Ent := ⟨172, (.cons (.ptr 65659 0) (.cons (nu 4) (.cons (nu 2) .nil))), ⟨[MwO0, MwO47], 71554⟩, (.agg (avs [(nu 15), (nu 0), (nu 0), (nu 0), (.str 0 0), (nu 0), (.sl 71649 0 2 8 true), (nu 142)])), ⟨[MwO0, MwO48, MwO49], 71859⟩⟩
theorem MwT18 [In2] : Ent.check Tryz.prog (knownG Tryz.prog In2.z) [] 990 MwE18 = true := by kernel_rfl
theorem MwK18 [In2] : MwE18.Ok Tryz.prog K0 := Ent.ok_of mixed known_ok Tab.ok_nil MwT18
def MwE19 : Ent := ⟨172, (.cons (.ptr 65659 0) (.cons (nu 3) (.cons (nu 0) .nil))), ⟨[MwO0, MwO50], 71505⟩, (.agg (avs [(nu 35), (nu 0), (nu 0), (nu 0), (.str 3 7632240), (nu 0), (.sl 71912 0 1 8 false), (nu 137)])), ⟨[MwO0, MwO51, MwO49, MwO52], 72152⟩⟩
theorem MwT19 [In2] : Ent.check Tryz.prog (knownG Tryz.prog In2.z) [(172, [MwE18])] 990 MwE19 = true := by kernel_rfl
theorem MwK19 [In2] : MwE19.Ok Tryz.prog K0 := Ent.ok_of mixed known_ok (Tab.ok_cons (f := 172) (Ent.ok_cons MwK18 Ent.ok_nil) Tab.ok_nil) MwT19
def MwE20 : Ent := ⟨172, (.cons (.ptr 65659 0) (.cons (nu 4) (.cons (nu 2) .nil))), ⟨[MwO0, MwO53], 72233⟩, (.agg (avs [(nu 9), (nu 3), (nu 0), (nu 0), (.str 0 0), (nu 0), (.sl 72296 0 1 8 true), (nu 150)])), ⟨[MwO0, MwO54, MwO55], 72481⟩⟩
theorem MwT20 [In2] : Ent.check Tryz.prog (knownG Tryz.prog In2.z) [] 990 MwE20 = true := by kernel_rfl
theorem MwK20 [In2] : MwE20.Ok Tryz.prog K0 := Ent.ok_of mixed known_ok Tab.ok_nil MwT20
def MwE21 : Ent := ⟨172, (.cons (.ptr 65659 0) (.cons (nu 3) (.cons (nu 0) .nil))), ⟨[MwO0, MwO56], 72184⟩, (.agg (avs [(nu 35), (nu 0), (nu 0), (nu 0), (.str 3 7632240), (nu 0), (.sl 72534 0 1 8 false), (nu 146)])), ⟨[MwO0, MwO57, MwO55, MwO58], 72774⟩⟩
theorem MwT21 [In2] : Ent.check Tryz.prog (knownG Tryz.prog In2.z) [(172, [MwE20])] 990 MwE21 = true := by kernel_rfl
theorem MwK21 [In2] : MwE21.Ok Tryz.prog K0 := Ent.ok_of mixed known_ok (Tab.ok_cons (f := 172) (Ent.ok_cons MwK20 Ent.ok_nil) Tab.ok_nil) MwT21
def MwE22 : Ent := ⟨238, (.cons (.ptr 65659 0) (.cons (nu 3) .nil)), ⟨[MwO0, MwO59], 72831⟩, (.agg (avs [(nu 35), (nu 0), (nu 0), (nu 0), (.str 3 7632240), (nu 0), (.sl 73136 0 1 8 false), (nu 160)])), ⟨[MwO0, MwO60, MwO61, MwO62], 73141⟩⟩
theorem MwT22 [In2] : Ent.check Tryz.prog (knownG Tryz.prog In2.z) [] 990 MwE22 = true := by kernel_rfl
theorem MwK22 [In2] : MwE22.Ok Tryz.prog K0 := Ent.ok_of mixed known_ok Tab.ok_nil MwT22
def MwE23 : Ent := ⟨93, (.cons (.ptr 65659 0) (.cons (nu 2) .nil)), ⟨[MwO0, MwO59], 72788⟩, (.agg (avs [(nu 1), (.sl 73383 0 1 8 true), .nils, (nu 0), (nu 0), (nu 0), (.str 0 0), (nu 0), (nu 160)])), ⟨[MwO0, MwO63, MwO61, MwO62, MwO64], 73387⟩⟩
theorem MwT23 [In2] : Ent.check Tryz.prog (knownG Tryz.prog In2.z) [(238, [MwE22])] 990 MwE23 = true := by kernel_rfl
theorem MwK23 [In2] : MwE23.Ok Tryz.prog K0 := Ent.ok_of mixed known_ok (Tab.ok_cons (f := 238) (Ent.ok_cons MwK22 Ent.ok_nil) Tab.ok_nil) MwT23
def MwE24 : Ent := ⟨93, (.cons (.ptr 65659 0) (.cons (nu 2) .nil)), ⟨[MwO0, MwO63], 73390⟩, (.agg (avs [(nu 13), (.sl 73683 0 1 8 true), .nils, (nu 0), (nu 0), (nu 0), (.str 0 0), (nu 0), (nu 168)])), ⟨[MwO0, MwO65, MwO66], 73687⟩⟩
theorem MwT24 [In2] : Ent.check Tryz.prog (knownG Tryz.prog In2.z) [] 990 MwE24 = true := by kernel_rfl
theorem MwK24 [In2] : MwE24.Ok Tryz.prog K0 := Ent.ok_of mixed known_ok Tab.ok_nil MwT24
def MwE25 : Ent := ⟨54, (.cons (.ptr 65659 0) (.cons (nu 1) .nil)), ⟨[MwO0, MwO67], 65689⟩, (.sl 73688 0 15 9 false), ⟨[MwO0, MwO68, MwO3, MwO5, MwO7, MwO9, MwO11, MwO14, MwO16, MwO69, MwO19, MwO22, MwO70, MwO25, MwO28, MwO71, MwO31, MwO34, MwO72, MwO37, MwO40, MwO73, MwO43, MwO46, MwO74, MwO49, MwO52, MwO75, MwO55, MwO58, MwO76, MwO61, MwO62, MwO64, MwO66, MwO77], 73693⟩⟩
theorem MwT25 [In2] : Ent.check Tryz.prog (knownG Tryz.prog In2.z) [(93, [MwE1, MwE2, MwE3, MwE4, MwE5, MwE23, MwE24]), (172, [MwE7, MwE9, MwE11, MwE13, MwE15, MwE17, MwE19, MwE21])] 990 MwE25 = true := by kernel_rfl
theorem MwK25 [In2] : MwE25.Ok Tryz.prog K0 := Ent.ok_of mixed known_ok (Tab.ok_cons (f := 93) (Ent.ok_cons MwK1 (Ent.ok_cons MwK2 (Ent.ok_cons MwK3 (Ent.ok_cons MwK4 (Ent.ok_cons MwK5 (Ent.ok_cons MwK23 (Ent.ok_cons MwK24 Ent.ok_nil))))))) (Tab.ok_cons (f := 172) (Ent.ok_cons MwK7 (Ent.ok_cons MwK9 (Ent.ok_cons MwK11 (Ent.ok_cons MwK13 (Ent.ok_cons MwK15 (Ent.ok_cons MwK17 (Ent.ok_cons MwK19 (Ent.ok_cons MwK21 Ent.ok_nil)))))))) Tab.ok_nil)) MwT25
end Go.Proofs.YtlpmpjechbkpkaaGreat

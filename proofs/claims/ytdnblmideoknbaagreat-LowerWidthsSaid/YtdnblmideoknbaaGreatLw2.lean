/- Calls that were proved one by one: what the evaluator says. -/
import Derived.Test.YtdnblmideoknbaaGreatLwO
import Derived.Test.YtdnblmideoknbaaGreatProg
import Derived.ProofKit
import Derived.Test.YtdnblmideoknbaaGreatWdB
import Derived.Test.YtdnblmideoknbaaGreatLw1
namespace Go.Proofs.YtdnblmideoknbaaGreat
open Go.Proofs.YtdnblmideoknbaaGreat.Ev
set_option maxRecDepth 100000

def LwE15 : Ent := ⟨263, (.cons (.ptr 65659 0) (.cons (nu 3) (.cons (nu 4) .nil))), ⟨[LwO0, LwO38], 70055⟩, (.agg (avs [(nu 35), (nu 0), (nu 0), (nu 0), (.str 3 7632240), (nu 0), (.sl 70530 0 1 8 false), (nu 119)])), ⟨[LwO0, LwO39, LwO37, LwO40], 70678⟩⟩
theorem LwT15 [In2] : Ent.check Tryz.prog (knownG Tryz.prog In2.z) [(263, [LwE14])] 990 LwE15 = true := by kernel_rfl
theorem LwK15 [In2] : LwE15.Ok Tryz.prog K0 := Ent.ok_of mixed known_ok (Tab.ok_cons (f := 263) (Ent.ok_cons LwK14 Ent.ok_nil) Tab.ok_nil) LwT15
def LwE16 : Ent := ⟨263, (.cons (.ptr 65659 0) (.cons (nu 4) (.cons (nu 4) .nil))), ⟨[LwO0, LwO41], 70853⟩, (.agg (avs [(nu 18), (nu 0), (nu 0), (nu 0), (.str 0 0), (nu 0), (.sl 70993 0 2 8 true), (nu 133)])), ⟨[LwO0, LwO42, LwO43], 71134⟩⟩
theorem LwT16 [In2] : Ent.check Tryz.prog (knownG Tryz.prog In2.z) [] 990 LwE16 = true := by kernel_rfl
theorem LwK16 [In2] : LwE16.Ok Tryz.prog K0 := Ent.ok_of mixed known_ok Tab.ok_nil LwT16
def LwE17 : Ent := ⟨263, (.cons (.ptr 65659 0) (.cons (nu 3) (.cons (nu 2) .nil))), ⟨[LwO0, LwO44], 70804⟩, (.agg (avs [(nu 35), (nu 0), (nu 0), (nu 0), (.str 3 7632240), (nu 0), (.sl 71233 0 1 8 false), (nu 128)])), ⟨[LwO0, LwO45, LwO43, LwO46], 71427⟩⟩
theorem LwT17 [In2] : Ent.check Tryz.prog (knownG Tryz.prog In2.z) [(263, [LwE16])] 990 LwE17 = true := by kernel_rfl
theorem LwK17 [In2] : LwE17.Ok Tryz.prog K0 := Ent.ok_of mixed known_ok (Tab.ok_cons (f := 263) (Ent.ok_cons LwK16 Ent.ok_nil) Tab.ok_nil) LwT17
def LwE18 : Ent := ⟨263, (.cons (.ptr 65659 0) (.cons (nu 4) (.cons (nu 2) .nil))), ⟨[LwO0, LwO47], 71554⟩, (.agg (avs [(nu 15), (nu 0), (nu 0), (nu 0), (.str 0 0), (nu 0), (.sl 71649 0 2 8 true), (nu 142)])), ⟨[LwO0, LwO48, LwO49], 71859⟩⟩
theorem LwT18 [In2] : Ent.check Tryz.prog (knownG Tryz.prog In2.z) [] 990 LwE18 = true := by kernel_rfl
theorem LwK18 [In2] : LwE18.Ok Tryz.prog K0 := Ent.ok_of mixed known_ok Tab.ok_nil LwT18
def LwE19 : Ent := ⟨263, (.cons (.ptr 65659 0) (.cons (nu 3) (.cons (nu 0) .nil))), ⟨[LwO0, LwO50], 71505⟩, (.agg (avs [(nu 35), (nu 0), (nu 0), (nu 0), (.str 3 7632240), (nu 0), (.sl 71912 0 1 8 false), (nu 137)])), ⟨[LwO0, LwO51, LwO49, LwO52], 72152⟩⟩
theorem LwT19 [In2] : Ent.check Tryz.prog (knownG Tryz.prog In2.z) [(263, [LwE18])] 990 LwE19 = true := by kernel_rfl
theorem LwK19 [In2] : LwE19.Ok Tryz.prog K0 := Ent.ok_of mixed known_ok (Tab.ok_cons (f := 263) (Ent.ok_cons LwK18 Ent.ok_nil) Tab.ok_nil) LwT19
def LwE20 : Ent := ⟨263, (.cons (.ptr 65659 0) (.cons (nu 4) (.cons (nu 2) .nil))), ⟨[LwO0, LwO53], 72233⟩, (.agg (avs [(nu 9), (nu 3), (nu 0), (nu 0), (.str 0 0), (nu 0), (.sl 72296 0 1 8 true), (nu 150)])), ⟨[LwO0, LwO54, LwO55], 72481⟩⟩
theorem LwT20 [In2] : Ent.check Tryz.prog (knownG Tryz.prog In2.z) [] 990 LwE20 = true := by kernel_rfl
theorem LwK20 [In2] : LwE20.Ok Tryz.prog K0 := Ent.ok_of mixed known_ok Tab.ok_nil LwT20
def LwE21 : Ent := ⟨263, (.cons (.ptr 65659 0) (.cons (nu 3) (.cons (nu 0) .nil))), ⟨[LwO0, LwO56], 72184⟩, (.agg (avs [(nu 35), (nu 0), (nu 0), (nu 0), (.str 3 7632240), (nu 0), (.sl 72534 0 1 8 false), (nu 146)])), ⟨[LwO0, LwO57, LwO55, LwO58], 72774⟩⟩
theorem LwT21 [In2] : Ent.check Tryz.prog (knownG Tryz.prog In2.z) [(263, [LwE20])] 990 LwE21 = true := by kernel_rfl
theorem LwK21 [In2] : LwE21.Ok Tryz.prog K0 := Ent.ok_of mixed known_ok (Tab.ok_cons (f := 263) (Ent.ok_cons LwK20 Ent.ok_nil) Tab.ok_nil) LwT21
def LwE22 : Ent := ⟨347, (.cons (.ptr 65659 0) (.cons (nu 3) .nil)), ⟨[LwO0, LwO59], 72831⟩, (.agg (avs [(nu 35), (nu 0), (nu 0), (nu 0), (.str 3 7632240), (nu 0), (.sl 73136 0 1 8 false), (nu 160)])), ⟨[LwO0, LwO60, LwO61, LwO62], 73141⟩⟩
theorem LwT22 [In2] : Ent.check Tryz.prog (knownG Tryz.prog In2.z) [] 990 LwE22 = true := by kernel_rfl
theorem LwK22 [In2] : LwE22.Ok Tryz.prog K0 := Ent.ok_of mixed known_ok Tab.ok_nil LwT22
def LwE23 : Ent := ⟨121, (.cons (.ptr 65659 0) (.cons (nu 2) .nil)), ⟨[LwO0, LwO59], 72788⟩, (.agg (avs [(nu 1), (.sl 73383 0 1 8 true), .nils, (nu 0), (nu 0), (nu 0), (.str 0 0), (nu 0), (nu 160)])), ⟨[LwO0, LwO63, LwO61, LwO62, LwO64], 73387⟩⟩
theorem LwT23 [In2] : Ent.check Tryz.prog (knownG Tryz.prog In2.z) [(347, [LwE22])] 990 LwE23 = true := by kernel_rfl
theorem LwK23 [In2] : LwE23.Ok Tryz.prog K0 := Ent.ok_of mixed known_ok (Tab.ok_cons (f := 347) (Ent.ok_cons LwK22 Ent.ok_nil) Tab.ok_nil) LwT23
def LwE24 : Ent := ⟨121, (.cons (.ptr 65659 0) (.cons (nu 2) .nil)), ⟨[LwO0, LwO63], 73390⟩, (.agg (avs [(nu 13), (.sl 73683 0 1 8 true), .nils, (nu 0), (nu 0), (nu 0), (.str 0 0), (nu 0), (nu 168)])), ⟨[LwO0, LwO65, LwO66], 73687⟩⟩
theorem LwT24 [In2] : Ent.check Tryz.prog (knownG Tryz.prog In2.z) [] 990 LwE24 = true := by kernel_rfl
theorem LwK24 [In2] : LwE24.Ok Tryz.prog K0 := Ent.ok_of mixed known_ok Tab.ok_nil LwT24
def LwE25 : Ent := ⟨80, (.cons (.ptr 65659 0) (.cons (nu 1) .nil)), ⟨[LwO0, LwO67], 65689⟩, (.sl 73688 0 15 9 false), ⟨[LwO0, LwO68, LwO3, LwO5, LwO7, LwO9, LwO11, LwO14, LwO16, LwO69, LwO19, LwO22, LwO70, LwO25, LwO28, LwO71, LwO31, LwO34, LwO72, LwO37, LwO40, LwO73, LwO43, LwO46, LwO74, LwO49, LwO52, LwO75, LwO55, LwO58, LwO76, LwO61, LwO62, LwO64, LwO66, LwO77], 73693⟩⟩
theorem LwT25 [In2] : Ent.check Tryz.prog (knownG Tryz.prog In2.z) [(121, [LwE1, LwE2, LwE3, LwE4, LwE5, LwE23, LwE24]), (263, [LwE7, LwE9, LwE11, LwE13, LwE15, LwE17, LwE19, LwE21])] 990 LwE25 = true := by kernel_rfl
theorem LwK25 [In2] : LwE25.Ok Tryz.prog K0 := Ent.ok_of mixed known_ok (Tab.ok_cons (f := 121) (Ent.ok_cons LwK1 (Ent.ok_cons LwK2 (Ent.ok_cons LwK3 (Ent.ok_cons LwK4 (Ent.ok_cons LwK5 (Ent.ok_cons LwK23 (Ent.ok_cons LwK24 Ent.ok_nil))))))) (Tab.ok_cons (f := 263) (Ent.ok_cons LwK7 (Ent.ok_cons LwK9 (Ent.ok_cons LwK11 (Ent.ok_cons LwK13 (Ent.ok_cons LwK15 (Ent.ok_cons LwK17 (Ent.ok_cons LwK19 (Ent.ok_cons LwK21 Ent.ok_nil)))))))) Tab.ok_nil)) LwT25
end Go.Proofs.YtdnblmideoknbaaGreat

/- Calls that were proved one by one: what the evaluator says. -/
import Derived.Test.YtpepepkfjimoeaaGreatNaO
import Derived.Test.YtpepepkfjimoeaaGreatProg
import Derived.ProofKit
import Derived.Test.YtpepepkfjimoeaaGreatVh
namespace Go.Proofs.YtpepepkfjimoeaaGreat
open Go.Proofs.YtpepepkfjimoeaaGreat.Ev
set_option maxRecDepth 100000

def NaE6 : Ent := ⟨22, (.cons (.str 22 46854837556062011782860583878441071242923761170935401) .nil), ⟨[], 57452⟩, (.tup (avs [(.sl 68045 0 14 4 false), (.agg (avs [(nu 0), (nu 0)]))])), ⟨[NaO82, NaO83, NaO84, NaO85, NaO86, NaO87, NaO88, NaO89, NaO90, NaO91, NaO92, NaO93, NaO94, NaO95], 68046⟩⟩
theorem NaT6 : Ent.check Tryz.prog [] 990 NaE6 = true := by kernel_rfl
theorem NaK6 : NaE6.Ok Tryz.prog := Ent.ok_of mixed Tab.ok_nil NaT6
def NaE7 : Ent := ⟨22, (.cons (.str 34 3712223023966296396250110513525809654744891051043745845763023215671409481172151913) .nil), ⟨[], 68767⟩, (.tup (avs [(.sl 79964 0 20 4 false), (.agg (avs [(nu 0), (nu 0)]))])), ⟨[NaO96, NaO97, NaO98, NaO99, NaO100, NaO101, NaO102, NaO103, NaO104, NaO105, NaO106, NaO107, NaO108, NaO109, NaO110, NaO111, NaO112, NaO113, NaO114, NaO115], 79965⟩⟩
theorem NaT7 : Ent.check Tryz.prog [] 990 NaE7 = true := by kernel_rfl
theorem NaK7 : NaE7.Ok Tryz.prog := Ent.ok_of mixed Tab.ok_nil NaT7
def NaE8 : Ent := ⟨48, (.cons (.ptr 79966 0) (.cons (nu 1) .nil)), ⟨[NaO96, NaO97, NaO98, NaO99, NaO100, NaO101, NaO102, NaO103, NaO104, NaO105, NaO106, NaO107, NaO108, NaO109, NaO110, NaO111, NaO112, NaO113, NaO114, NaO115, NaO116, NaO117], 80038⟩, (.sl 80666 0 2 9 false), ⟨[NaO96, NaO97, NaO98, NaO99, NaO100, NaO101, NaO102, NaO103, NaO104, NaO105, NaO106, NaO107, NaO108, NaO109, NaO110, NaO111, NaO112, NaO113, NaO114, NaO115, NaO118, NaO117, NaO119, NaO120, NaO121, NaO122], 80671⟩⟩
theorem NaT8 : Ent.check Tryz.prog [] 990 NaE8 = true := by kernel_rfl
theorem NaK8 : NaE8.Ok Tryz.prog := Ent.ok_of mixed Tab.ok_nil NaT8
def NaE9 : Ent := ⟨22, (.cons (.str 16 166460679767404652472561421737830674025) .nil), ⟨[], 81126⟩, (.tup (avs [(.sl 90248 0 11 4 false), (.agg (avs [(nu 0), (nu 0)]))])), ⟨[NaO123, NaO124, NaO125, NaO126, NaO127, NaO128, NaO129, NaO130, NaO131, NaO132, NaO133], 90249⟩⟩
theorem NaT9 : Ent.check Tryz.prog [] 990 NaE9 = true := by kernel_rfl
theorem NaK9 : NaE9.Ok Tryz.prog := Ent.ok_of mixed Tab.ok_nil NaT9
end Go.Proofs.YtpepepkfjimoeaaGreat

/- Calls that were proved one by one: what the evaluator says. -/
import Derived.Test.YtdnblmideoknbaaGreatLaO
import Derived.Test.YtdnblmideoknbaaGreatProg
import Derived.ProofKit
import Derived.Test.YtdnblmideoknbaaGreatWeA
import Derived.Test.YtdnblmideoknbaaGreatLa4
namespace Go.Proofs.YtdnblmideoknbaaGreat
open Go.Proofs.YtdnblmideoknbaaGreat.Ev
set_option maxRecDepth 100000

def LaE40 : Ent := ⟨14, (.cons (.str 28 LaS0) .nil), ⟨[], 200000⟩, (.tup (avs [(.agg (avs [.nils, (.sl 211309 0 1 8 false)])), (.bool true)])), ⟨[LaO272, LaO273, LaO274, LaO275, LaO276], 211479⟩⟩
theorem LaT40 [In4] : @Ent.check envGen Tryz.prog (@knownA envGen) [(36, [LaE36]), (121, [LaE38, LaE39])] 990 LaE40 = true := by kernel_rfl
theorem LaK40 [In4] : LaE40.Ok Tryz.prog Keep.none :=
  letI := envGen
  Ent.ok_of mixed (X := knownA) knownA_ok (Tab.ok_cons (f := 36) (Ent.ok_cons LaK36 Ent.ok_nil) (Tab.ok_cons (f := 121) (Ent.ok_cons LaK38 (Ent.ok_cons LaK39 Ent.ok_nil)) Tab.ok_nil)) LaT40
def LaE41 : Ent := ⟨25, (.cons (.agg (avs [.nils, (.sl 211309 0 1 8 false)])) .nil), ⟨[LaO272, LaO273, LaO274, LaO275, LaO276], 211482⟩, (.bool true), ⟨[LaO272, LaO273, LaO274, LaO275, LaO276], 211730⟩⟩
theorem LaT41 [In4] : @Ent.check envGen Tryz.prog (@knownA envGen) [] 990 LaE41 = true := by kernel_rfl
theorem LaK41 [In4] : LaE41.Ok Tryz.prog Keep.none :=
  letI := envGen
  Ent.ok_of mixed (X := knownA) knownA_ok Tab.ok_nil LaT41
def LaE42 : Ent := ⟨19, (.cons (.agg (avs [.nils, (.sl 211309 0 1 8 false)])) .nil), ⟨[LaO272, LaO273, LaO274, LaO275, LaO276], 211480⟩, (.tup (avs [(.agg (avs [.nils, (.sl 211936 0 1 4 false), (nu 0)])), (nu 0)])), ⟨[LaO272, LaO273, LaO274, LaO275, LaO276, LaO277, LaO278, LaO279, LaO280], 211937⟩⟩
theorem LaT42 [In4] : @Ent.check envGen Tryz.prog (@knownA envGen) [(25, [LaE41])] 990 LaE42 = true := by kernel_rfl
theorem LaK42 [In4] : LaE42.Ok Tryz.prog Keep.none :=
  letI := envGen
  Ent.ok_of mixed (X := knownA) knownA_ok (Tab.ok_cons (f := 25) (Ent.ok_cons LaK41 Ent.ok_nil) Tab.ok_nil) LaT42
def LaE43 : Ent := ⟨21, (.cons (.agg (avs [.nils, (.sl 211936 0 1 4 false), (nu 0)])) .nil), ⟨[LaO277, LaO278, LaO279, LaO280], 211938⟩, (.bool true), ⟨[LaO277, LaO278, LaO279, LaO280], 212104⟩⟩
theorem LaT43 [In4] : @Ent.check envGen Tryz.prog (@knownA envGen) [] 990 LaE43 = true := by kernel_rfl
theorem LaK43 [In4] : LaE43.Ok Tryz.prog Keep.none :=
  letI := envGen
  Ent.ok_of mixed (X := knownA) knownA_ok Tab.ok_nil LaT43
def LaE44 : Ent := ⟨10, .nil, ⟨[], 200000⟩, (.bool true), ⟨[], 212219⟩⟩
theorem LaT44 [In4] : @Ent.check envGen Tryz.prog (@knownA envGen) [(14, [LaE40]), (19, [LaE42]), (21, [LaE43])] 990 LaE44 = true := by kernel_rfl
theorem LaK44 [In4] : LaE44.Ok Tryz.prog Keep.none :=
  letI := envGen
  Ent.ok_of mixed (X := knownA) knownA_ok (Tab.ok_cons (f := 14) (Ent.ok_cons LaK40 Ent.ok_nil) (Tab.ok_cons (f := 19) (Ent.ok_cons LaK42 Ent.ok_nil) (Tab.ok_cons (f := 21) (Ent.ok_cons LaK43 Ent.ok_nil) Tab.ok_nil))) LaT44
end Go.Proofs.YtdnblmideoknbaaGreat

/- Calls that were proved one by one: what the evaluator says. -/
import Derived.Test.YtdnblmideoknbaaGreatLaO
import Derived.Test.YtdnblmideoknbaaGreatProg
import Derived.ProofKit
import Derived.Test.YtdnblmideoknbaaGreatWeA
namespace Go.Proofs.YtdnblmideoknbaaGreat
open Go.Proofs.YtdnblmideoknbaaGreat.Ev
set_option maxRecDepth 100000

def LaE33 : Ent := ⟨33, (.cons (.agg (avs [.nils, (.sl 65829 0 1 4 false), (nu 0)])) (.cons (.agg (avs [(nu 0), (nu 6), (.sl 63113 0 4 3 false), (.sl 65791 0 12 7 false)])) .nil)), ⟨[LaO184, LaO186, LaO187, LaO188, LaO189, LaO190, LaO191, LaO192, LaO193, LaO194, LaO195, LaO196, LaO200, LaO201, LaO203, LaO204, LaO207, LaO208, LaO209, LaO210, LaO211, LaO212, LaO213, LaO214, LaO215, LaO216, LaO217, LaO218, LaO219, LaO220, LaO221, LaO222, LaO223, LaO225, LaO226, LaO227, LaO228, LaO229, LaO231, LaO232, LaO237, LaO238, LaO239, LaO240, LaO241, LaO242, LaO243, LaO244, LaO245, LaO246, LaO247, LaO248, LaO249, LaO250, LaO254, LaO255, LaO256, LaO257, LaO258, LaO259, LaO260, LaO262, LaO263], 65840⟩, (.bool true), ⟨[LaO184, LaO186, LaO187, LaO188, LaO189, LaO190, LaO191, LaO192, LaO193, LaO194, LaO195, LaO196, LaO200, LaO201, LaO203, LaO204, LaO207, LaO208, LaO209, LaO210, LaO211, LaO212, LaO213, LaO214, LaO215, LaO216, LaO217, LaO218, LaO219, LaO220, LaO221, LaO222, LaO223, LaO225, LaO226, LaO227, LaO228, LaO229, LaO231, LaO232, LaO237, LaO238, LaO239, LaO240, LaO241, LaO242, LaO243, LaO244, LaO245, LaO246, LaO247, LaO248, LaO249, LaO250, LaO254, LaO255, LaO256, LaO257, LaO258, LaO259, LaO260, LaO262, LaO263], 69864⟩⟩
theorem LaT33 [In4] : @Ent.check envGen Tryz.prog (@knownA envGen) [] 990 LaE33 = true := by kernel_rfl
theorem LaK33 [In4] : LaE33.Ok Tryz.prog Keep.none :=
  letI := envGen
  Ent.ok_of mixed (X := knownA) knownA_ok Tab.ok_nil LaT33
def LaE34 : Ent := ⟨21, (.cons (.agg (avs [.nils, (.sl 65829 0 1 4 false), (nu 0)])) .nil), ⟨[LaO184, LaO186, LaO187, LaO188, LaO189, LaO190, LaO191, LaO192, LaO193, LaO194, LaO195, LaO196, LaO200, LaO201, LaO203, LaO204, LaO207, LaO208, LaO209, LaO210, LaO211, LaO212, LaO213, LaO214, LaO215, LaO216, LaO217, LaO218, LaO219, LaO220, LaO221, LaO222, LaO223, LaO225, LaO226, LaO227, LaO228, LaO229, LaO231, LaO232, LaO237, LaO238, LaO239, LaO240, LaO241, LaO242, LaO243, LaO244, LaO245, LaO246, LaO247, LaO248, LaO249, LaO250, LaO254, LaO255, LaO256, LaO257, LaO258, LaO259, LaO260, LaO262, LaO263], 65831⟩, (.bool true), ⟨[LaO184, LaO186, LaO187, LaO188, LaO189, LaO190, LaO191, LaO192, LaO193, LaO194, LaO195, LaO196, LaO200, LaO201, LaO203, LaO204, LaO207, LaO208, LaO209, LaO210, LaO211, LaO212, LaO213, LaO214, LaO215, LaO216, LaO217, LaO218, LaO219, LaO220, LaO221, LaO222, LaO223, LaO225, LaO226, LaO227, LaO228, LaO229, LaO231, LaO232, LaO237, LaO238, LaO239, LaO240, LaO241, LaO242, LaO243, LaO244, LaO245, LaO246, LaO247, LaO248, LaO249, LaO250, LaO254, LaO255, LaO256, LaO257, LaO258, LaO259, LaO260, LaO262, LaO263], 69864⟩⟩
theorem LaT34 [In4] : @Ent.check envGen Tryz.prog (@knownA envGen) [(33, [LaE33])] 990 LaE34 = true := by kernel_rfl
theorem LaK34 [In4] : LaE34.Ok Tryz.prog Keep.none :=
  letI := envGen
  Ent.ok_of mixed (X := knownA) knownA_ok (Tab.ok_cons (f := 33) (Ent.ok_cons LaK33 Ent.ok_nil) Tab.ok_nil) LaT34
def LaE36 : Ent := ⟨36, (.cons (.str 28 LaS0) .nil), ⟨[], 200003⟩, (.tup (avs [(.sl 210328 0 15 4 false), (.agg (avs [(nu 0), (nu 0)]))])), ⟨[LaO264], 210329⟩⟩
theorem LaT36 [In4] : @Ent.check envGen Tryz.prog (@knownA envGen) [] 990 LaE36 = true := by kernel_rfl
theorem LaK36 [In4] : LaE36.Ok Tryz.prog Keep.none :=
  letI := envGen
  Ent.ok_of mixed (X := knownA) knownA_ok Tab.ok_nil LaT36
def LaE37 : Ent := ⟨329, (.cons (.ptr 210330 0) (.cons (nu 3) .nil)), ⟨[LaO264, LaO265], 210406⟩, (.agg (avs [(nu 35), (nu 0), (nu 0), (nu 0), (.str 3 7632240), (nu 0), (.sl 210701 0 1 8 false), (nu 11)])), ⟨[LaO264, LaO266, LaO267], 210711⟩⟩
theorem LaT37 [In4] : @Ent.check envGen Tryz.prog (@knownA envGen) [] 990 LaE37 = true := by kernel_rfl
theorem LaK37 [In4] : LaE37.Ok Tryz.prog Keep.none :=
  letI := envGen
  Ent.ok_of mixed (X := knownA) knownA_ok Tab.ok_nil LaT37
def LaE38 : Ent := ⟨121, (.cons (.ptr 210330 0) (.cons (nu 2) .nil)), ⟨[LaO264, LaO265], 210364⟩, (.agg (avs [(nu 1), (.sl 210948 0 1 8 true), .nils, (nu 0), (nu 0), (nu 0), (.str 0 0), (nu 0), (nu 11)])), ⟨[LaO264, LaO268, LaO267, LaO269], 210952⟩⟩
theorem LaT38 [In4] : @Ent.check envGen Tryz.prog (@knownA envGen) [(329, [LaE37])] 990 LaE38 = true := by kernel_rfl
theorem LaK38 [In4] : LaE38.Ok Tryz.prog Keep.none :=
  letI := envGen
  Ent.ok_of mixed (X := knownA) knownA_ok (Tab.ok_cons (f := 329) (Ent.ok_cons LaK37 Ent.ok_nil) Tab.ok_nil) LaT38
def LaE39 : Ent := ⟨121, (.cons (.ptr 210330 0) (.cons (nu 2) .nil)), ⟨[LaO264, LaO268], 210955⟩, (.agg (avs [(nu 13), (.sl 211248 0 1 8 true), .nils, (nu 0), (nu 0), (nu 0), (.str 0 0), (nu 0), (nu 18)])), ⟨[LaO264, LaO270, LaO271], 211252⟩⟩
theorem LaT39 [In4] : @Ent.check envGen Tryz.prog (@knownA envGen) [] 990 LaE39 = true := by kernel_rfl
theorem LaK39 [In4] : LaE39.Ok Tryz.prog Keep.none :=
  letI := envGen
  Ent.ok_of mixed (X := knownA) knownA_ok Tab.ok_nil LaT39
end Go.Proofs.YtdnblmideoknbaaGreat

/- Calls that were proved one by one: what the evaluator says. -/
import Derived.Test.YtpepepkfjimoeaaGreatTbO
import Derived.Test.YtpepepkfjimoeaaGreatProg
import Derived.ProofKit
import Derived.Test.YtpepepkfjimoeaaGreatVh
namespace Go.Proofs.YtpepepkfjimoeaaGreat
open Go.Proofs.YtpepepkfjimoeaaGreat.Ev
set_option maxRecDepth 100000

def TbE34 : Ent := ⟨22, (.cons (.str 23 11994767795314696278348668912241681564626516418850221673) .nil), ⟨[], 74174⟩, (.tup (avs [(.sl 83416 0 15 4 false), (.agg (avs [(nu 0), (nu 0)]))])), ⟨[TbO192, TbO193, TbO194, TbO195, TbO196, TbO197, TbO198, TbO199, TbO200, TbO201, TbO202, TbO203, TbO204, TbO205, TbO206], 83417⟩⟩
theorem TbT34 : Ent.check Tryz.prog [] 990 TbE34 = true := by kernel_rfl
theorem TbK34 : TbE34.Ok Tryz.prog := Ent.ok_of mixed Tab.ok_nil TbT34
def TbE35 : Ent := ⟨171, (.cons (.ptr 83418 0) (.cons (nu 3) (.cons (nu 8) .nil))), ⟨[TbO192, TbO193, TbO194, TbO195, TbO196, TbO197, TbO198, TbO199, TbO200, TbO201, TbO202, TbO203, TbO204, TbO205, TbO206, TbO207], 83510⟩, (.agg (avs [(nu 18), (nu 0), (nu 0), (nu 0), (.str 0 0), (nu 0), (.sl 83644 0 2 8 true), (nu 19)])), ⟨[TbO192, TbO193, TbO194, TbO195, TbO196, TbO197, TbO198, TbO199, TbO200, TbO201, TbO202, TbO203, TbO204, TbO205, TbO206, TbO208, TbO209], 83693⟩⟩
theorem TbT35 : Ent.check Tryz.prog [] 990 TbE35 = true := by kernel_rfl
theorem TbK35 : TbE35.Ok Tryz.prog := Ent.ok_of mixed Tab.ok_nil TbT35
def TbE36 : Ent := ⟨87, (.cons (.ptr 83418 0) (.cons (nu 2) .nil)), ⟨[TbO192, TbO193, TbO194, TbO195, TbO196, TbO197, TbO198, TbO199, TbO200, TbO201, TbO202, TbO203, TbO204, TbO205, TbO206, TbO207], 83484⟩, (.agg (avs [(nu 1), (.sl 83884 0 1 8 true), .nils, (nu 0), (nu 0), (nu 0), (.str 0 0), (nu 0), (nu 18)])), ⟨[TbO192, TbO193, TbO194, TbO195, TbO196, TbO197, TbO198, TbO199, TbO200, TbO201, TbO202, TbO203, TbO204, TbO205, TbO206, TbO210, TbO209, TbO211], 83888⟩⟩
theorem TbT36 : Ent.check Tryz.prog [(171, [TbE35])] 990 TbE36 = true := by kernel_rfl
theorem TbK36 : TbE36.Ok Tryz.prog := Ent.ok_of mixed (Tab.ok_cons (f := 171) (Ent.ok_cons TbK35 Ent.ok_nil) Tab.ok_nil) TbT36
def TbE37 : Ent := ⟨23, (.cons (.ptr 83418 0) .nil), ⟨[TbO192, TbO193, TbO194, TbO195, TbO196, TbO197, TbO198, TbO199, TbO200, TbO201, TbO202, TbO203, TbO204, TbO205, TbO206, TbO212], 83419⟩, (.tup (avs [])), ⟨[TbO192, TbO193, TbO194, TbO195, TbO196, TbO197, TbO198, TbO199, TbO200, TbO201, TbO202, TbO203, TbO204, TbO205, TbO206, TbO213, TbO214, TbO209, TbO211, TbO215, TbO216], 83908⟩⟩
theorem TbT37 : Ent.check Tryz.prog [(87, [TbE36])] 990 TbE37 = true := by kernel_rfl
theorem TbK37 : TbE37.Ok Tryz.prog := Ent.ok_of mixed (Tab.ok_cons (f := 87) (Ent.ok_cons TbK36 Ent.ok_nil) Tab.ok_nil) TbT37
def TbE38 : Ent := ⟨17, (.cons (.agg (avs [.nils, (.sl 83907 0 1 8 false)])) .nil), ⟨[TbO214, TbO209, TbO211, TbO215, TbO216], 83910⟩, (.tup (avs [(.agg (avs [.nils, .nils])), (.agg (avs [(nu 6), (nu 19)]))])), ⟨[TbO214, TbO209, TbO211, TbO215, TbO216], 84253⟩⟩
theorem TbT38 : Ent.check Tryz.prog [] 990 TbE38 = true := by kernel_rfl
theorem TbK38 : TbE38.Ok Tryz.prog := Ent.ok_of mixed Tab.ok_nil TbT38
def TbE39 : Ent := ⟨22, (.cons (.str 22 46854921339966840107017810591219837310692558581821033) .nil), ⟨[], 84269⟩, (.tup (avs [(.sl 93575 0 14 4 false), (.agg (avs [(nu 0), (nu 0)]))])), ⟨[TbO217, TbO218, TbO219, TbO220, TbO221, TbO222, TbO223, TbO224, TbO225, TbO226, TbO227, TbO228, TbO229, TbO230], 93576⟩⟩
theorem TbT39 : Ent.check Tryz.prog [] 990 TbE39 = true := by kernel_rfl
theorem TbK39 : TbE39.Ok Tryz.prog := Ent.ok_of mixed Tab.ok_nil TbT39
def TbE40 : Ent := ⟨171, (.cons (.ptr 93577 0) (.cons (nu 3) (.cons (nu 6) .nil))), ⟨[TbO217, TbO218, TbO219, TbO220, TbO221, TbO222, TbO223, TbO224, TbO225, TbO226, TbO227, TbO228, TbO229, TbO230, TbO231], 93667⟩, (.agg (avs [(nu 4), (nu 0), (nu 0), (nu 0), (.str 0 0), (nu 0), (.sl 93708 0 1 8 true), (nu 18)])), ⟨[TbO217, TbO218, TbO219, TbO220, TbO221, TbO222, TbO223, TbO224, TbO225, TbO226, TbO227, TbO228, TbO229, TbO230, TbO232, TbO233], 93801⟩⟩
theorem TbT40 : Ent.check Tryz.prog [] 990 TbE40 = true := by kernel_rfl
theorem TbK40 : TbE40.Ok Tryz.prog := Ent.ok_of mixed Tab.ok_nil TbT40
def TbE41 : Ent := ⟨87, (.cons (.ptr 93577 0) (.cons (nu 2) .nil)), ⟨[TbO217, TbO218, TbO219, TbO220, TbO221, TbO222, TbO223, TbO224, TbO225, TbO226, TbO227, TbO228, TbO229, TbO230, TbO231], 93643⟩, (.agg (avs [(nu 1), (.sl 93946 0 1 8 true), .nils, (nu 0), (nu 0), (nu 0), (.str 0 0), (nu 0), (nu 18)])), ⟨[TbO217, TbO218, TbO219, TbO220, TbO221, TbO222, TbO223, TbO224, TbO225, TbO226, TbO227, TbO228, TbO229, TbO230, TbO234, TbO233, TbO235], 93950⟩⟩
theorem TbT41 : Ent.check Tryz.prog [(171, [TbE40])] 990 TbE41 = true := by kernel_rfl
theorem TbK41 : TbE41.Ok Tryz.prog := Ent.ok_of mixed (Tab.ok_cons (f := 171) (Ent.ok_cons TbK40 Ent.ok_nil) Tab.ok_nil) TbT41
def TbE42 : Ent := ⟨23, (.cons (.ptr 93577 0) .nil), ⟨[TbO217, TbO218, TbO219, TbO220, TbO221, TbO222, TbO223, TbO224, TbO225, TbO226, TbO227, TbO228, TbO229, TbO230, TbO236], 93578⟩, (.tup (avs [])), ⟨[TbO217, TbO218, TbO219, TbO220, TbO221, TbO222, TbO223, TbO224, TbO225, TbO226, TbO227, TbO228, TbO229, TbO230, TbO237, TbO238, TbO233, TbO235, TbO239, TbO240], 93970⟩⟩
theorem TbT42 : Ent.check Tryz.prog [(87, [TbE41])] 990 TbE42 = true := by kernel_rfl
theorem TbK42 : TbE42.Ok Tryz.prog := Ent.ok_of mixed (Tab.ok_cons (f := 87) (Ent.ok_cons TbK41 Ent.ok_nil) Tab.ok_nil) TbT42
def TbE43 : Ent := ⟨22, (.cons (.str 21 183026701973047501190698683718129320108537299627625) .nil), ⟨[], 94276⟩, (.tup (avs [(.sl 102820 0 13 4 false), (.agg (avs [(nu 0), (nu 0)]))])), ⟨[TbO241, TbO242, TbO243, TbO244, TbO245, TbO246, TbO247, TbO248, TbO249, TbO250, TbO251, TbO252, TbO253], 102821⟩⟩
theorem TbT43 : Ent.check Tryz.prog [] 990 TbE43 = true := by kernel_rfl
theorem TbK43 : TbE43.Ok Tryz.prog := Ent.ok_of mixed Tab.ok_nil TbT43
def TbE44 : Ent := ⟨171, (.cons (.ptr 102822 0) (.cons (nu 3) (.cons (nu 6) .nil))), ⟨[TbO241, TbO242, TbO243, TbO244, TbO245, TbO246, TbO247, TbO248, TbO249, TbO250, TbO251, TbO252, TbO253, TbO254], 102914⟩, (.agg (avs [(nu 4), (nu 0), (nu 0), (nu 0), (.str 0 0), (nu 0), (.sl 102955 0 1 8 true), (nu 17)])), ⟨[TbO241, TbO242, TbO243, TbO244, TbO245, TbO246, TbO247, TbO248, TbO249, TbO250, TbO251, TbO252, TbO253, TbO255, TbO256], 103048⟩⟩
theorem TbT44 : Ent.check Tryz.prog [] 990 TbE44 = true := by kernel_rfl
theorem TbK44 : TbE44.Ok Tryz.prog := Ent.ok_of mixed Tab.ok_nil TbT44
def TbE45 : Ent := ⟨87, (.cons (.ptr 102822 0) (.cons (nu 2) .nil)), ⟨[TbO241, TbO242, TbO243, TbO244, TbO245, TbO246, TbO247, TbO248, TbO249, TbO250, TbO251, TbO252, TbO253, TbO254], 102890⟩, (.agg (avs [(nu 1), (.sl 103193 0 1 8 true), .nils, (nu 0), (nu 0), (nu 0), (.str 0 0), (nu 0), (nu 17)])), ⟨[TbO241, TbO242, TbO243, TbO244, TbO245, TbO246, TbO247, TbO248, TbO249, TbO250, TbO251, TbO252, TbO253, TbO257, TbO256, TbO258], 103197⟩⟩
theorem TbT45 : Ent.check Tryz.prog [(171, [TbE44])] 990 TbE45 = true := by kernel_rfl
theorem TbK45 : TbE45.Ok Tryz.prog := Ent.ok_of mixed (Tab.ok_cons (f := 171) (Ent.ok_cons TbK44 Ent.ok_nil) Tab.ok_nil) TbT45
end Go.Proofs.YtpepepkfjimoeaaGreat

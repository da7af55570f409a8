/- Calls that were proved one by one: what the evaluator says. -/
import Derived.Test.YtpepepkfjimoeaaGreatMfO
import Derived.Test.YtpepepkfjimoeaaGreatMfOx1
import Derived.Test.YtpepepkfjimoeaaGreatProg
import Derived.ProofKit
import Derived.Test.YtpepepkfjimoeaaGreatVh
namespace Go.Proofs.YtpepepkfjimoeaaGreat
open Go.Proofs.YtpepepkfjimoeaaGreat.Ev
set_option maxRecDepth 100000

def MfE19 : Ent := ⟨22, (.cons (.str 43 17530355741077029586096919070642044986340633846012027262626775807106564431684901102862041072306331348585) .nil), ⟨[], 39954⟩, (.tup (avs [(.sl 56277 0 26 4 false), (.agg (avs [(nu 0), (nu 0)]))])), ⟨[MfO152, MfO153, MfO154, MfO155, MfO156, MfO157, MfO158, MfO159, MfO160, MfO161, MfO162, MfO163, MfO164, MfO165, MfO166, MfO167, MfO168, MfO169, MfO170, MfO171, MfO172, MfO173, MfO174, MfO175, MfO176, MfO177], 56278⟩⟩
theorem MfT19 : Ent.check Tryz.prog [] 990 MfE19 = true := by kernel_rfl
theorem MfK19 : MfE19.Ok Tryz.prog := Ent.ok_of mixed Tab.ok_nil MfT19
def MfE20 : Ent := ⟨87, (.cons (.ptr 56279 0) (.cons (nu 2) .nil)), ⟨[MfO152, MfO153, MfO154, MfO155, MfO156, MfO157, MfO158, MfO159, MfO160, MfO161, MfO162, MfO163, MfO164, MfO165, MfO166, MfO167, MfO168, MfO169, MfO170, MfO171, MfO172, MfO173, MfO174, MfO175, MfO176, MfO177, MfO178], 56313⟩, (.agg (avs [(nu 2), (.sl 56617 0 1 8 true), .nils, (nu 5), (nu 0), (nu 0), (.str 1 105), (nu 0), (nu 11)])), ⟨[MfO152, MfO153, MfO154, MfO155, MfO156, MfO157, MfO158, MfO159, MfO160, MfO161, MfO162, MfO163, MfO164, MfO165, MfO166, MfO167, MfO168, MfO169, MfO170, MfO171, MfO172, MfO173, MfO174, MfO175, MfO176, MfO177, MfO179, MfO180], 56621⟩⟩
theorem MfT20 : Ent.check Tryz.prog [] 990 MfE20 = true := by kernel_rfl
theorem MfK20 : MfE20.Ok Tryz.prog := Ent.ok_of mixed Tab.ok_nil MfT20
def MfE21 : Ent := ⟨222, (.cons (.ptr 56279 0) (.cons (nu 4) .nil)), ⟨[MfO152, MfO153, MfO154, MfO155, MfO156, MfO157, MfO158, MfO159, MfO160, MfO161, MfO162, MfO163, MfO164, MfO165, MfO166, MfO167, MfO168, MfO169, MfO170, MfO171, MfO172, MfO173, MfO174, MfO175, MfO176, MfO177, MfO181], 56678⟩, (.agg (avs [(nu 35), (nu 0), (nu 0), (nu 0), (.str 3 7632240), (nu 0), (.sl 56975 0 1 8 false), (nu 22)])), ⟨[MfO152, MfO153, MfO154, MfO155, MfO156, MfO157, MfO158, MfO159, MfO160, MfO161, MfO162, MfO163, MfO164, MfO165, MfO166, MfO167, MfO168, MfO169, MfO170, MfO171, MfO172, MfO173, MfO174, MfO175, MfO176, MfO177, MfO182, MfO183], 56985⟩⟩
theorem MfT21 : Ent.check Tryz.prog [] 990 MfE21 = true := by kernel_rfl
theorem MfK21 : MfE21.Ok Tryz.prog := Ent.ok_of mixed Tab.ok_nil MfT21
def MfE22 : Ent := ⟨87, (.cons (.ptr 56279 0) (.cons (nu 3) .nil)), ⟨[MfO152, MfO153, MfO154, MfO155, MfO156, MfO157, MfO158, MfO159, MfO160, MfO161, MfO162, MfO163, MfO164, MfO165, MfO166, MfO167, MfO168, MfO169, MfO170, MfO171, MfO172, MfO173, MfO174, MfO175, MfO176, MfO177, MfO181], 56636⟩, (.agg (avs [(nu 1), (.sl 57222 0 1 8 true), .nils, (nu 0), (nu 0), (nu 0), (.str 0 0), (nu 0), (nu 22)])), ⟨[MfO152, MfO153, MfO154, MfO155, MfO156, MfO157, MfO158, MfO159, MfO160, MfO161, MfO162, MfO163, MfO164, MfO165, MfO166, MfO167, MfO168, MfO169, MfO170, MfO171, MfO172, MfO173, MfO174, MfO175, MfO176, MfO177, MfO184, MfO183, MfO185], 57226⟩⟩
theorem MfT22 : Ent.check Tryz.prog [(222, [MfE21])] 990 MfE22 = true := by kernel_rfl
theorem MfK22 : MfE22.Ok Tryz.prog := Ent.ok_of mixed (Tab.ok_cons (f := 222) (Ent.ok_cons MfK21 Ent.ok_nil) Tab.ok_nil) MfT22
def MfE23 : Ent := ⟨171, (.cons (.ptr 56279 0) (.cons (nu 3) (.cons (nu 6) .nil))), ⟨[MfO152, MfO153, MfO154, MfO155, MfO156, MfO157, MfO158, MfO159, MfO160, MfO161, MfO162, MfO163, MfO164, MfO165, MfO166, MfO167, MfO168, MfO169, MfO170, MfO171, MfO172, MfO173, MfO174, MfO175, MfO176, MfO177, MfO186], 57241⟩, (.agg (avs [(nu 22), (nu 0), (nu 0), (nu 0), (.str 0 0), (nu 0), (.sl 57484 0 2 8 true), (nu 38)])), ⟨[MfO152, MfO153, MfO154, MfO155, MfO156, MfO157, MfO158, MfO159, MfO160, MfO161, MfO162, MfO163, MfO164, MfO165, MfO166, MfO167, MfO168, MfO169, MfO170, MfO171, MfO172, MfO173, MfO174, MfO175, MfO176, MfO177, MfO187, MfO188, MfO189], 57533⟩⟩
theorem MfT23 : Ent.check Tryz.prog [] 990 MfE23 = true := by kernel_rfl
theorem MfK23 : MfE23.Ok Tryz.prog := Ent.ok_of mixed Tab.ok_nil MfT23
def MfE24 : Ent := ⟨23, (.cons (.ptr 56279 0) .nil), ⟨[MfO152, MfO153, MfO154, MfO155, MfO156, MfO157, MfO158, MfO159, MfO160, MfO161, MfO162, MfO163, MfO164, MfO165, MfO166, MfO167, MfO168, MfO169, MfO170, MfO171, MfO172, MfO173, MfO174, MfO175, MfO176, MfO177, MfO190], 56280⟩, (.tup (avs [])), ⟨[MfO152, MfO153, MfO154, MfO155, MfO156, MfO157, MfO158, MfO159, MfO160, MfO161, MfO162, MfO163, MfO164, MfO165, MfO166, MfO167, MfO168, MfO169, MfO170, MfO171, MfO172, MfO173, MfO174, MfO175, MfO176, MfO177, MfO191, MfO180, MfO192, MfO183, MfO185, MfO193, MfO188, MfO189, MfO194, MfO195, MfO196], 57706⟩⟩
theorem MfT24 : Ent.check Tryz.prog [(87, [MfE20, MfE22]), (171, [MfE23])] 990 MfE24 = true := by kernel_rfl
theorem MfK24 : MfE24.Ok Tryz.prog := Ent.ok_of mixed (Tab.ok_cons (f := 87) (Ent.ok_cons MfK20 (Ent.ok_cons MfK22 Ent.ok_nil)) (Tab.ok_cons (f := 171) (Ent.ok_cons MfK23 Ent.ok_nil) Tab.ok_nil)) MfT24
def MfE25 : Ent := ⟨30, (.cons (.agg (avs [.nils, (.sl 57705 0 1 8 false)])) .nil), ⟨[MfO180, MfO192, MfO183, MfO185, MfO193, MfO188, MfO189, MfO194, MfO195, MfO196], 57708⟩, (.tup (avs [(.agg (avs [.nils, (.sl 57768 0 1 8 false)])), (.agg (avs [(nu 0), (nu 0)]))])), ⟨[MfO180, MfO192, MfO183, MfO185, MfO193, MfO188, MfO189, MfO194, MfO195, MfO196, MfO197, MfO198, MfO199, MfO200, MfO201, MfO202, MfO203, MfO204, MfO205, MfO206], 58139⟩⟩
theorem MfT25 : Ent.check Tryz.prog [] 990 MfE25 = true := by kernel_rfl
theorem MfK25 : MfE25.Ok Tryz.prog := Ent.ok_of mixed Tab.ok_nil MfT25
def MfE26 : Ent := ⟨17, (.cons (.agg (avs [.nils, (.sl 57768 0 1 8 false)])) .nil), ⟨[MfO197, MfO198, MfO199, MfO200, MfO201, MfO202, MfO203, MfO204, MfO205, MfO206], 58150⟩, (.tup (avs [(.agg (avs [.nils, (.sl 58165 0 1 8 false)])), (.agg (avs [(nu 0), (nu 0)]))])), ⟨[MfO197, MfO198, MfO199, MfO200, MfO201, MfO202, MfO203, MfO204, MfO205, MfO206, MfO207, MfO208, MfO209, MfO210, MfO211, MfO212, MfO213, MfO214, MfO215, MfO216], 58598⟩⟩
theorem MfT26 : Ent.check Tryz.prog [] 990 MfE26 = true := by kernel_rfl
theorem MfK26 : MfE26.Ok Tryz.prog := Ent.ok_of mixed Tab.ok_nil MfT26
def MfE27 : Ent := ⟨134, (.cons (.ptr 58648 0) (.cons (.agg (avs [(nu 6), (.sl 57749 0 1 8 false), (.sl 57764 0 1 9 false), (nu 0), (nu 0), (nu 0), (.str 0 0), (nu 0), (nu 19)])) .nil)), ⟨[MfO197, MfO198, MfO199, MfO200, MfO201, MfO202, MfO203, MfO204, MfO205, MfO206, MfO217, MfO218, MfO219, MfO220, MfO221, MfO222], 58796⟩, (nu 0), ⟨[MfO197, MfO198, MfO199, MfO200, MfO201, MfO202, MfO203, MfO204, MfO205, MfO206, MfO223, MfO218, MfO224, MfO220, MfO221, MfO222, MfO225, MfO226], 59520⟩⟩
theorem MfT27 : Ent.check Tryz.prog [] 990 MfE27 = true := by kernel_rfl
theorem MfK27 : MfE27.Ok Tryz.prog := Ent.ok_of mixed Tab.ok_nil MfT27
end Go.Proofs.YtpepepkfjimoeaaGreat

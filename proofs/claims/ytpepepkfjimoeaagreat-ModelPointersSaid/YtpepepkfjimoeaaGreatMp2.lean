/- Calls that were proved one by one: what the evaluator says. -/
import Derived.Test.YtpepepkfjimoeaaGreatMpO
import Derived.Test.YtpepepkfjimoeaaGreatMpOx1
import Derived.Test.YtpepepkfjimoeaaGreatProg
import Derived.ProofKit
import Derived.Test.YtpepepkfjimoeaaGreatVh
import Derived.Test.YtpepepkfjimoeaaGreatMp0
import Derived.Test.YtpepepkfjimoeaaGreatMp1
namespace Go.Proofs.YtpepepkfjimoeaaGreat
open Go.Proofs.YtpepepkfjimoeaaGreat.Ev
set_option maxRecDepth 100000

def MpE17 : Ent := ⟨67, (.cons (.ptr 45962 0) (.cons (.sl 45793 0 6 9 false) .nil)), ⟨[MpO194, MpO168, MpO169, MpO170, MpO171, MpO172, MpO173, MpO174, MpO175, MpO176, MpO177, MpO178, MpO179, MpO180, MpO181, MpO182, MpO183, MpO184, MpO185, MpO186, MpO195, MpO196, MpO189, MpO190], 45984⟩, (.tup (avs [])), ⟨[MpO167, MpO168, MpO169, MpO170, MpO171, MpO172, MpO173, MpO174, MpO175, MpO176, MpO177, MpO178, MpO179, MpO180, MpO181, MpO182, MpO183, MpO184, MpO185, MpO186, MpO193, MpO188, MpO189, MpO190, MpO191, MpO192], 46901⟩⟩
theorem MpT17 : Ent.check Tryz.prog [(139, [MpE16])] 990 MpE17 = true := by kernel_rfl
theorem MpK17 : MpE17.Ok Tryz.prog := Ent.ok_of mixed (Tab.ok_cons (f := 139) (Ent.ok_cons MpK16 Ent.ok_nil) Tab.ok_nil) MpT17
def MpE18 : Ent := ⟨108, (.cons (.sl 45793 0 6 9 false) (.cons (.sl 44582 0 6 9 false) (.cons (.fn 109 .nil .nil) .nil))), ⟨[MpO103, MpO104, MpO105, MpO106, MpO107, MpO108, MpO109, MpO110, MpO111, MpO112, MpO113, MpO134, MpO135, MpO136, MpO137, MpO138, MpO139, MpO166, MpO126, MpO168, MpO169, MpO170, MpO171, MpO172, MpO173, MpO174, MpO175, MpO176, MpO177, MpO178, MpO179, MpO180, MpO181, MpO182, MpO183, MpO184, MpO185, MpO186], 46929⟩, (.bool true), ⟨[MpO103, MpO104, MpO105, MpO106, MpO107, MpO108, MpO109, MpO110, MpO111, MpO112, MpO113, MpO134, MpO135, MpO136, MpO137, MpO138, MpO139, MpO166, MpO126, MpO168, MpO169, MpO170, MpO171, MpO172, MpO173, MpO174, MpO175, MpO176, MpO177, MpO178, MpO179, MpO180, MpO181, MpO182, MpO183, MpO184, MpO185, MpO186], 47065⟩⟩
theorem MpT18 : Ent.check Tryz.prog [] 990 MpE18 = true := by kernel_rfl
theorem MpK18 : MpE18.Ok Tryz.prog := Ent.ok_of mixed Tab.ok_nil MpT18
def MpE19 : Ent := ⟨82, (.cons (.ptr 47065 0) (.cons (.sl 44582 0 6 9 false) .nil)), ⟨[MpO103, MpO104, MpO105, MpO106, MpO107, MpO108, MpO109, MpO110, MpO111, MpO112, MpO113, MpO134, MpO135, MpO136, MpO137, MpO138, MpO139, MpO166, MpO126, MpO127, MpO131, MpO133, MpO197, MpO198, MpO199, MpO200, MpO201, MpO202, MpO203, MpO204, MpO205], 47140⟩, (nu 0), ⟨[MpO103, MpO104, MpO105, MpO106, MpO107, MpO108, MpO109, MpO110, MpO111, MpO112, MpO113, MpO134, MpO135, MpO136, MpO137, MpO138, MpO139, MpO166, MpO126, MpO127, MpO131, MpO133, MpO206, MpO198, MpO207, MpO200, MpO201, MpO208, MpO203, MpO204, MpO205, MpO209], 48855⟩⟩
theorem MpT19 : Ent.check Tryz.prog [] 990 MpE19 = true := by kernel_rfl
theorem MpK19 : MpE19.Ok Tryz.prog := Ent.ok_of mixed Tab.ok_nil MpT19
def MpE20 : Ent := ⟨13, (.cons (.str 70 1846161974607207561253685302398863135216730407549569942522489085634139010419446147252795457384790550599692587935695359579630262895959895134433847305422918470756302351977) (.cons .nils .nil)), ⟨[], 9⟩, (.agg (avs [(nu 1), (nu 0), (.sl 48853 0 1 1 false), (nu 42), (nu 1)])), ⟨[MpO209], 48915⟩⟩
theorem MpT20 : Ent.check Tryz.prog [(22, [MpE0]), (48, [MpE13]), (105, [MpE15]), (67, [MpE17]), (108, [MpE18]), (82, [MpE19])] 990 MpE20 = true := by kernel_rfl
theorem MpK20 : MpE20.Ok Tryz.prog := Ent.ok_of mixed (Tab.ok_cons (f := 22) (Ent.ok_cons MpK0 Ent.ok_nil) (Tab.ok_cons (f := 48) (Ent.ok_cons MpK13 Ent.ok_nil) (Tab.ok_cons (f := 105) (Ent.ok_cons MpK15 Ent.ok_nil) (Tab.ok_cons (f := 67) (Ent.ok_cons MpK17 Ent.ok_nil) (Tab.ok_cons (f := 108) (Ent.ok_cons MpK18 Ent.ok_nil) (Tab.ok_cons (f := 82) (Ent.ok_cons MpK19 Ent.ok_nil) Tab.ok_nil)))))) MpT20
def MpE21 : Ent := ⟨22, (.cons (.str 52 82784766233266422480313433825976255782574263481222423419266728170554799769668851216410481218311640277554174714273069954002537) .nil), ⟨[], 48947⟩, (.tup (avs [(.sl 72817 0 38 4 false), (.agg (avs [(nu 0), (nu 0)]))])), ⟨[MpO210, MpO211, MpO212, MpO213, MpO214, MpO215, MpO216, MpO217, MpO218, MpO219, MpO220, MpO221, MpO222, MpO223, MpO224, MpO225, MpO226, MpO227, MpO228, MpO229, MpO230, MpO231, MpO232, MpO233, MpO234, MpO235, MpO236, MpO237, MpO238, MpO239, MpO240, MpO241, MpO242, MpO243, MpO244, MpO245, MpO246, MpO247], 72818⟩⟩
theorem MpT21 : Ent.check Tryz.prog [] 990 MpE21 = true := by kernel_rfl
theorem MpK21 : MpE21.Ok Tryz.prog := Ent.ok_of mixed Tab.ok_nil MpT21
def MpE22 : Ent := ⟨87, (.cons (.ptr 72819 0) (.cons (nu 2) .nil)), ⟨[MpO210, MpO211, MpO212, MpO213, MpO214, MpO215, MpO216, MpO217, MpO218, MpO219, MpO220, MpO221, MpO222, MpO223, MpO224, MpO225, MpO226, MpO227, MpO228, MpO229, MpO230, MpO231, MpO232, MpO233, MpO234, MpO235, MpO236, MpO237, MpO238, MpO239, MpO240, MpO241, MpO242, MpO243, MpO244, MpO245, MpO246, MpO247, MpO248], 72853⟩, (.agg (avs [(nu 2), (.sl 73157 0 1 8 true), .nils, (nu 5), (nu 0), (nu 0), (.str 1 97), (nu 0), (nu 11)])), ⟨[MpO210, MpO211, MpO212, MpO213, MpO214, MpO215, MpO216, MpO217, MpO218, MpO219, MpO220, MpO221, MpO222, MpO223, MpO224, MpO225, MpO226, MpO227, MpO228, MpO229, MpO230, MpO231, MpO232, MpO233, MpO234, MpO235, MpO236, MpO237, MpO238, MpO239, MpO240, MpO241, MpO242, MpO243, MpO244, MpO245, MpO246, MpO247, MpO249, MpO250], 73161⟩⟩
theorem MpT22 : Ent.check Tryz.prog [] 990 MpE22 = true := by kernel_rfl
theorem MpK22 : MpE22.Ok Tryz.prog := Ent.ok_of mixed Tab.ok_nil MpT22
end Go.Proofs.YtpepepkfjimoeaaGreat

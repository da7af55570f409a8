/- Calls that were proved one by one: what the evaluator says. -/
import Derived.Test.YtpepepkfjimoeaaGreatMnO
import Derived.Test.YtpepepkfjimoeaaGreatMnOx1
import Derived.Test.YtpepepkfjimoeaaGreatProg
import Derived.ProofKit
import Derived.Test.YtpepepkfjimoeaaGreatVh
import Derived.Test.YtpepepkfjimoeaaGreatMn2
namespace Go.Proofs.YtpepepkfjimoeaaGreat
open Go.Proofs.YtpepepkfjimoeaaGreat.Ev
set_option maxRecDepth 100000

def MnE26 : Ent := ⟨171, (.cons (.ptr 67824 0) (.cons (nu 4) (.cons (nu 3) .nil))), ⟨[MnO132, MnO133, MnO134, MnO135, MnO136, MnO137, MnO138, MnO139, MnO140, MnO141, MnO142, MnO143, MnO144, MnO145, MnO146, MnO147, MnO148, MnO149, MnO150, MnO154], 68238⟩, (.agg (avs [(nu 18), (nu 0), (nu 0), (nu 0), (.str 0 0), (nu 0), (.sl 68377 0 2 8 true), (nu 34)])), ⟨[MnO132, MnO133, MnO134, MnO135, MnO136, MnO137, MnO138, MnO139, MnO140, MnO141, MnO142, MnO143, MnO144, MnO145, MnO146, MnO147, MnO148, MnO149, MnO150, MnO155, MnO156], 68541⟩⟩
theorem MnT26 : Ent.check Tryz.prog [] 990 MnE26 = true := by kernel_rfl
theorem MnK26 : MnE26.Ok Tryz.prog := Ent.ok_of mixed Tab.ok_nil MnT26
def MnE27 : Ent := ⟨171, (.cons (.ptr 67824 0) (.cons (nu 3) (.cons (nu 1) .nil))), ⟨[MnO132, MnO133, MnO134, MnO135, MnO136, MnO137, MnO138, MnO139, MnO140, MnO141, MnO142, MnO143, MnO144, MnO145, MnO146, MnO147, MnO148, MnO149, MnO150, MnO152], 68189⟩, (.agg (avs [(nu 35), (nu 0), (nu 0), (nu 0), (.str 3 7632240), (nu 0), (.sl 68617 0 1 8 false), (nu 29)])), ⟨[MnO132, MnO133, MnO134, MnO135, MnO136, MnO137, MnO138, MnO139, MnO140, MnO141, MnO142, MnO143, MnO144, MnO145, MnO146, MnO147, MnO148, MnO149, MnO150, MnO157, MnO156, MnO158], 68834⟩⟩
theorem MnT27 : Ent.check Tryz.prog [(171, [MnE26])] 990 MnE27 = true := by kernel_rfl
theorem MnK27 : MnE27.Ok Tryz.prog := Ent.ok_of mixed (Tab.ok_cons (f := 171) (Ent.ok_cons MnK26 Ent.ok_nil) Tab.ok_nil) MnT27
def MnE28 : Ent := ⟨19, (.cons (.str 39 4081604008604361809303396208593472402858889322341701215869406223645484402232487434889949638249) .nil), ⟨[], 55690⟩, (.tup (avs [(.agg (avs [.nils, (.sl 68935 0 1 8 false)])), (.bool true)])), ⟨[MnO159, MnO160, MnO161, MnO162, MnO163, MnO164, MnO165], 69247⟩⟩
theorem MnT28 : Ent.check Tryz.prog [(22, [MnE24]), (87, [MnE25]), (171, [MnE27])] 990 MnE28 = true := by kernel_rfl
theorem MnK28 : MnE28.Ok Tryz.prog := Ent.ok_of mixed (Tab.ok_cons (f := 22) (Ent.ok_cons MnK24 Ent.ok_nil) (Tab.ok_cons (f := 87) (Ent.ok_cons MnK25 Ent.ok_nil) (Tab.ok_cons (f := 171) (Ent.ok_cons MnK27 Ent.ok_nil) Tab.ok_nil))) MnT28
def MnE29 : Ent := ⟨31, (.cons (.agg (avs [.nils, (.sl 68935 0 1 8 false)])) .nil), ⟨[MnO159, MnO160, MnO161, MnO162, MnO163, MnO164, MnO165], 69250⟩, (.bool true), ⟨[MnO159, MnO160, MnO161, MnO162, MnO163, MnO164, MnO165], 69658⟩⟩
theorem MnT29 : Ent.check Tryz.prog [] 990 MnE29 = true := by kernel_rfl
theorem MnK29 : MnE29.Ok Tryz.prog := Ent.ok_of mixed Tab.ok_nil MnT29
def MnE30 : Ent := ⟨22, (.cons (.str 41 267492000432144708233268030072005806733510966890625232068438303925750114393017729265170785643032169) .nil), ⟨[], 70128⟩, (.tup (avs [(.sl 90630 0 30 4 false), (.agg (avs [(nu 0), (nu 0)]))])), ⟨[MnO166, MnO167, MnO168, MnO169, MnO170, MnO171, MnO172, MnO173, MnO174, MnO175, MnO176, MnO177, MnO178, MnO179, MnO180, MnO181, MnO182, MnO183, MnO184, MnO185, MnO186, MnO187, MnO188, MnO189, MnO190, MnO191, MnO192, MnO193, MnO194, MnO195], 90631⟩⟩
theorem MnT30 : Ent.check Tryz.prog [] 990 MnE30 = true := by kernel_rfl
theorem MnK30 : MnE30.Ok Tryz.prog := Ent.ok_of mixed Tab.ok_nil MnT30
def MnE31 : Ent := ⟨171, (.cons (.ptr 90632 0) (.cons (nu 4) (.cons (nu 2) .nil))), ⟨[MnO166, MnO167, MnO168, MnO169, MnO170, MnO171, MnO172, MnO173, MnO174, MnO175, MnO176, MnO177, MnO178, MnO179, MnO180, MnO181, MnO182, MnO183, MnO184, MnO185, MnO186, MnO187, MnO188, MnO189, MnO190, MnO191, MnO192, MnO193, MnO194, MnO195, MnO196], 90733⟩, (.agg (avs [(nu 16), (nu 0), (nu 0), (nu 0), (.str 0 0), (nu 0), (.sl 90824 0 2 8 true), (nu 16)])), ⟨[MnO166, MnO167, MnO168, MnO169, MnO170, MnO171, MnO172, MnO173, MnO174, MnO175, MnO176, MnO177, MnO178, MnO179, MnO180, MnO181, MnO182, MnO183, MnO184, MnO185, MnO186, MnO187, MnO188, MnO189, MnO190, MnO191, MnO192, MnO193, MnO194, MnO195, MnO197, MnO198], 91034⟩⟩
theorem MnT31 : Ent.check Tryz.prog [] 990 MnE31 = true := by kernel_rfl
theorem MnK31 : MnE31.Ok Tryz.prog := Ent.ok_of mixed Tab.ok_nil MnT31
def MnE32 : Ent := ⟨171, (.cons (.ptr 90632 0) (.cons (nu 3) (.cons (nu 0) .nil))), ⟨[MnO166, MnO167, MnO168, MnO169, MnO170, MnO171, MnO172, MnO173, MnO174, MnO175, MnO176, MnO177, MnO178, MnO179, MnO180, MnO181, MnO182, MnO183, MnO184, MnO185, MnO186, MnO187, MnO188, MnO189, MnO190, MnO191, MnO192, MnO193, MnO194, MnO195, MnO199], 90684⟩, (.agg (avs [(nu 35), (nu 0), (nu 0), (nu 0), (.str 3 7632240), (nu 0), (.sl 91087 0 1 8 false), (nu 11)])), ⟨[MnO166, MnO167, MnO168, MnO169, MnO170, MnO171, MnO172, MnO173, MnO174, MnO175, MnO176, MnO177, MnO178, MnO179, MnO180, MnO181, MnO182, MnO183, MnO184, MnO185, MnO186, MnO187, MnO188, MnO189, MnO190, MnO191, MnO192, MnO193, MnO194, MnO195, MnO200, MnO198, MnO201], 91327⟩⟩
theorem MnT32 : Ent.check Tryz.prog [(171, [MnE31])] 990 MnE32 = true := by kernel_rfl
theorem MnK32 : MnE32.Ok Tryz.prog := Ent.ok_of mixed (Tab.ok_cons (f := 171) (Ent.ok_cons MnK31 Ent.ok_nil) Tab.ok_nil) MnT32
def MnE33 : Ent := ⟨171, (.cons (.ptr 90632 0) (.cons (nu 4) (.cons (nu 3) .nil))), ⟨[MnO166, MnO167, MnO168, MnO169, MnO170, MnO171, MnO172, MnO173, MnO174, MnO175, MnO176, MnO177, MnO178, MnO179, MnO180, MnO181, MnO182, MnO183, MnO184, MnO185, MnO186, MnO187, MnO188, MnO189, MnO190, MnO191, MnO192, MnO193, MnO194, MnO195, MnO202], 91409⟩, (.agg (avs [(nu 16), (nu 0), (nu 0), (nu 0), (.str 0 0), (nu 0), (.sl 91507 0 2 8 true), (nu 26)])), ⟨[MnO166, MnO167, MnO168, MnO169, MnO170, MnO171, MnO172, MnO173, MnO174, MnO175, MnO176, MnO177, MnO178, MnO179, MnO180, MnO181, MnO182, MnO183, MnO184, MnO185, MnO186, MnO187, MnO188, MnO189, MnO190, MnO191, MnO192, MnO193, MnO194, MnO195, MnO203, MnO204, MnO205], 91694⟩⟩
theorem MnT33 : Ent.check Tryz.prog [] 990 MnE33 = true := by kernel_rfl
theorem MnK33 : MnE33.Ok Tryz.prog := Ent.ok_of mixed Tab.ok_nil MnT33
def MnE34 : Ent := ⟨171, (.cons (.ptr 90632 0) (.cons (nu 3) (.cons (nu 1) .nil))), ⟨[MnO166, MnO167, MnO168, MnO169, MnO170, MnO171, MnO172, MnO173, MnO174, MnO175, MnO176, MnO177, MnO178, MnO179, MnO180, MnO181, MnO182, MnO183, MnO184, MnO185, MnO186, MnO187, MnO188, MnO189, MnO190, MnO191, MnO192, MnO193, MnO194, MnO195, MnO206], 91360⟩, (.agg (avs [(nu 35), (nu 0), (nu 0), (nu 0), (.str 3 7632240), (nu 0), (.sl 91770 0 1 8 false), (nu 20)])), ⟨[MnO166, MnO167, MnO168, MnO169, MnO170, MnO171, MnO172, MnO173, MnO174, MnO175, MnO176, MnO177, MnO178, MnO179, MnO180, MnO181, MnO182, MnO183, MnO184, MnO185, MnO186, MnO187, MnO188, MnO189, MnO190, MnO191, MnO192, MnO193, MnO194, MnO195, MnO207, MnO204, MnO205, MnO208], 91987⟩⟩
theorem MnT34 : Ent.check Tryz.prog [(171, [MnE33])] 990 MnE34 = true := by kernel_rfl
theorem MnK34 : MnE34.Ok Tryz.prog := Ent.ok_of mixed (Tab.ok_cons (f := 171) (Ent.ok_cons MnK33 Ent.ok_nil) Tab.ok_nil) MnT34
def MnE35 : Ent := ⟨171, (.cons (.ptr 90632 0) (.cons (nu 4) (.cons (nu 4) .nil))), ⟨[MnO166, MnO167, MnO168, MnO169, MnO170, MnO171, MnO172, MnO173, MnO174, MnO175, MnO176, MnO177, MnO178, MnO179, MnO180, MnO181, MnO182, MnO183, MnO184, MnO185, MnO186, MnO187, MnO188, MnO189, MnO190, MnO191, MnO192, MnO193, MnO194, MnO195, MnO209], 92093⟩, (.agg (avs [(nu 17), (nu 0), (nu 0), (nu 0), (.str 0 0), (nu 0), (.sl 92190 0 2 8 true), (nu 36)])), ⟨[MnO166, MnO167, MnO168, MnO169, MnO170, MnO171, MnO172, MnO173, MnO174, MnO175, MnO176, MnO177, MnO178, MnO179, MnO180, MnO181, MnO182, MnO183, MnO184, MnO185, MnO186, MnO187, MnO188, MnO189, MnO190, MnO191, MnO192, MnO193, MnO194, MnO195, MnO210, MnO211, MnO212], 92354⟩⟩
theorem MnT35 : Ent.check Tryz.prog [] 990 MnE35 = true := by kernel_rfl
theorem MnK35 : MnE35.Ok Tryz.prog := Ent.ok_of mixed Tab.ok_nil MnT35
end Go.Proofs.YtpepepkfjimoeaaGreat

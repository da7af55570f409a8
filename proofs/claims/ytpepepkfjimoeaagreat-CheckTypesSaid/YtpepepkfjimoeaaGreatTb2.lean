/- Calls that were proved one by one: what the evaluator says. -/
import Derived.Test.YtpepepkfjimoeaaGreatTbO
import Derived.Test.YtpepepkfjimoeaaGreatProg
import Derived.ProofKit
import Derived.Test.YtpepepkfjimoeaaGreatVh
namespace Go.Proofs.YtpepepkfjimoeaaGreat
open Go.Proofs.YtpepepkfjimoeaaGreat.Ev
set_option maxRecDepth 100000

def TbE23 : Ent := ⟨22, (.cons (.str 24 3070684126699013727350345051485171898721209632581733346921) .nil), ⟨[], 52424⟩, (.tup (avs [(.sl 62772 0 17 4 false), (.agg (avs [(nu 0), (nu 0)]))])), ⟨[TbO131, TbO132, TbO133, TbO134, TbO135, TbO136, TbO137, TbO138, TbO139, TbO140, TbO141, TbO142, TbO143, TbO144, TbO145, TbO146, TbO147], 62773⟩⟩
theorem TbT23 : Ent.check Tryz.prog [] 990 TbE23 = true := by kernel_rfl
theorem TbK23 : TbE23.Ok Tryz.prog := Ent.ok_of mixed Tab.ok_nil TbT23
def TbE24 : Ent := ⟨171, (.cons (.ptr 62774 0) (.cons (nu 3) (.cons (nu 3) .nil))), ⟨[TbO131, TbO132, TbO133, TbO134, TbO135, TbO136, TbO137, TbO138, TbO139, TbO140, TbO141, TbO142, TbO143, TbO144, TbO145, TbO146, TbO147, TbO148], 62866⟩, (.agg (avs [(nu 2), (nu 0), (nu 0), (nu 0), (.str 1 112), (nu 0), .nils, (nu 17)])), ⟨[TbO131, TbO132, TbO133, TbO134, TbO135, TbO136, TbO137, TbO138, TbO139, TbO140, TbO141, TbO142, TbO143, TbO144, TbO145, TbO146, TbO147, TbO149], 63061⟩⟩
theorem TbT24 : Ent.check Tryz.prog [] 990 TbE24 = true := by kernel_rfl
theorem TbK24 : TbE24.Ok Tryz.prog := Ent.ok_of mixed Tab.ok_nil TbT24
def TbE25 : Ent := ⟨171, (.cons (.ptr 62774 0) (.cons (nu 4) (.cons (nu 8) .nil))), ⟨[TbO131, TbO132, TbO133, TbO134, TbO135, TbO136, TbO137, TbO138, TbO139, TbO140, TbO141, TbO142, TbO143, TbO144, TbO145, TbO146, TbO147, TbO150], 63147⟩, (.agg (avs [(nu 18), (nu 0), (nu 0), (nu 0), (.str 0 0), (nu 0), (.sl 63283 0 2 8 true), (nu 20)])), ⟨[TbO131, TbO132, TbO133, TbO134, TbO135, TbO136, TbO137, TbO138, TbO139, TbO140, TbO141, TbO142, TbO143, TbO144, TbO145, TbO146, TbO147, TbO151, TbO152], 63332⟩⟩
theorem TbT25 : Ent.check Tryz.prog [] 990 TbE25 = true := by kernel_rfl
theorem TbK25 : TbE25.Ok Tryz.prog := Ent.ok_of mixed Tab.ok_nil TbT25
def TbE26 : Ent := ⟨114, (.cons (.ptr 62774 0) (.cons (nu 3) .nil)), ⟨[TbO131, TbO132, TbO133, TbO134, TbO135, TbO136, TbO137, TbO138, TbO139, TbO140, TbO141, TbO142, TbO143, TbO144, TbO145, TbO146, TbO147, TbO148], 62861⟩, (.agg (avs [(nu 34), (nu 0), (nu 0), (nu 0), (.str 0 0), (nu 0), (.sl 63529 0 2 8 true), (nu 18)])), ⟨[TbO131, TbO132, TbO133, TbO134, TbO135, TbO136, TbO137, TbO138, TbO139, TbO140, TbO141, TbO142, TbO143, TbO144, TbO145, TbO146, TbO147, TbO151, TbO152, TbO153], 63536⟩⟩
theorem TbT26 : Ent.check Tryz.prog [(171, [TbE24, TbE25])] 990 TbE26 = true := by kernel_rfl
theorem TbK26 : TbE26.Ok Tryz.prog := Ent.ok_of mixed (Tab.ok_cons (f := 171) (Ent.ok_cons TbK24 (Ent.ok_cons TbK25 Ent.ok_nil)) Tab.ok_nil) TbT26
def TbE27 : Ent := ⟨48, (.cons (.ptr 62774 0) (.cons (nu 1) .nil)), ⟨[TbO131, TbO132, TbO133, TbO134, TbO135, TbO136, TbO137, TbO138, TbO139, TbO140, TbO141, TbO142, TbO143, TbO144, TbO145, TbO146, TbO147, TbO154], 62804⟩, (.sl 63541 0 2 9 false), ⟨[TbO131, TbO132, TbO133, TbO134, TbO135, TbO136, TbO137, TbO138, TbO139, TbO140, TbO141, TbO142, TbO143, TbO144, TbO145, TbO146, TbO147, TbO155, TbO156, TbO152, TbO153, TbO157, TbO158], 63546⟩⟩
theorem TbT27 : Ent.check Tryz.prog [(114, [TbE26])] 990 TbE27 = true := by kernel_rfl
theorem TbK27 : TbE27.Ok Tryz.prog := Ent.ok_of mixed (Tab.ok_cons (f := 114) (Ent.ok_cons TbK26 Ent.ok_nil) Tab.ok_nil) TbT27
def TbE28 : Ent := ⟨17, (.cons (.agg (avs [.nils, (.sl 63559 0 1 8 false)])) .nil), ⟨[TbO156, TbO152, TbO153, TbO157, TbO158, TbO159], 63562⟩, (.tup (avs [(.agg (avs [.nils, .nils])), (.agg (avs [(nu 6), (nu 20)]))])), ⟨[TbO156, TbO152, TbO153, TbO157, TbO158, TbO159], 63947⟩⟩
theorem TbT28 : Ent.check Tryz.prog [] 990 TbE28 = true := by kernel_rfl
theorem TbK28 : TbE28.Ok Tryz.prog := Ent.ok_of mixed Tab.ok_nil TbT28
def TbE29 : Ent := ⟨22, (.cons (.str 29 3376252905745922444583495802355678626697310084866291284873587495038569) .nil), ⟨[], 63963⟩, (.tup (avs [(.sl 73252 0 16 4 false), (.agg (avs [(nu 0), (nu 0)]))])), ⟨[TbO160, TbO161, TbO162, TbO163, TbO164, TbO165, TbO166, TbO167, TbO168, TbO169, TbO170, TbO171, TbO172, TbO173, TbO174, TbO175], 73253⟩⟩
theorem TbT29 : Ent.check Tryz.prog [] 990 TbE29 = true := by kernel_rfl
theorem TbK29 : TbE29.Ok Tryz.prog := Ent.ok_of mixed Tab.ok_nil TbT29
def TbE30 : Ent := ⟨171, (.cons (.ptr 73254 0) (.cons (nu 3) (.cons (nu 8) .nil))), ⟨[TbO160, TbO161, TbO162, TbO163, TbO164, TbO165, TbO166, TbO167, TbO168, TbO169, TbO170, TbO171, TbO172, TbO173, TbO174, TbO175, TbO176], 73354⟩, (.agg (avs [(nu 19), (nu 0), (nu 0), (nu 0), (.str 0 0), (nu 0), (.sl 73490 0 2 8 true), (nu 25)])), ⟨[TbO160, TbO161, TbO162, TbO163, TbO164, TbO165, TbO166, TbO167, TbO168, TbO169, TbO170, TbO171, TbO172, TbO173, TbO174, TbO175, TbO177, TbO178], 73539⟩⟩
theorem TbT30 : Ent.check Tryz.prog [] 990 TbE30 = true := by kernel_rfl
theorem TbK30 : TbE30.Ok Tryz.prog := Ent.ok_of mixed Tab.ok_nil TbT30
def TbE31 : Ent := ⟨87, (.cons (.ptr 73254 0) (.cons (nu 2) .nil)), ⟨[TbO160, TbO161, TbO162, TbO163, TbO164, TbO165, TbO166, TbO167, TbO168, TbO169, TbO170, TbO171, TbO172, TbO173, TbO174, TbO175, TbO179], 73325⟩, (.agg (avs [(nu 13), (.sl 73730 0 1 8 true), .nils, (nu 0), (nu 0), (nu 0), (.str 0 0), (nu 0), (nu 17)])), ⟨[TbO160, TbO161, TbO162, TbO163, TbO164, TbO165, TbO166, TbO167, TbO168, TbO169, TbO170, TbO171, TbO172, TbO173, TbO174, TbO175, TbO180, TbO178, TbO181], 73734⟩⟩
theorem TbT31 : Ent.check Tryz.prog [(171, [TbE30])] 990 TbE31 = true := by kernel_rfl
theorem TbK31 : TbE31.Ok Tryz.prog := Ent.ok_of mixed (Tab.ok_cons (f := 171) (Ent.ok_cons TbK30 Ent.ok_nil) Tab.ok_nil) TbT31
def TbE32 : Ent := ⟨23, (.cons (.ptr 73254 0) .nil), ⟨[TbO160, TbO161, TbO162, TbO163, TbO164, TbO165, TbO166, TbO167, TbO168, TbO169, TbO170, TbO171, TbO172, TbO173, TbO174, TbO175, TbO182], 73255⟩, (.tup (avs [])), ⟨[TbO160, TbO161, TbO162, TbO163, TbO164, TbO165, TbO166, TbO167, TbO168, TbO169, TbO170, TbO171, TbO172, TbO173, TbO174, TbO175, TbO183, TbO184, TbO178, TbO181, TbO185, TbO186], 73754⟩⟩
theorem TbT32 : Ent.check Tryz.prog [(87, [TbE31])] 990 TbE32 = true := by kernel_rfl
theorem TbK32 : TbE32.Ok Tryz.prog := Ent.ok_of mixed (Tab.ok_cons (f := 87) (Ent.ok_cons TbK31 Ent.ok_nil) Tab.ok_nil) TbT32
def TbE33 : Ent := ⟨17, (.cons (.agg (avs [.nils, (.sl 73753 0 1 8 false)])) .nil), ⟨[TbO184, TbO178, TbO181, TbO185, TbO186], 73756⟩, (.tup (avs [(.agg (avs [.nils, (.sl 73771 0 1 8 false)])), (.agg (avs [(nu 0), (nu 0)]))])), ⟨[TbO184, TbO178, TbO181, TbO185, TbO186, TbO187, TbO188, TbO189, TbO190, TbO191], 74158⟩⟩
theorem TbT33 : Ent.check Tryz.prog [] 990 TbE33 = true := by kernel_rfl
theorem TbK33 : TbE33.Ok Tryz.prog := Ent.ok_of mixed Tab.ok_nil TbT33
end Go.Proofs.YtpepepkfjimoeaaGreat

/- Calls that were proved one by one: what the evaluator says. -/
import Derived.Test.YtpepepkfjimoeaaGreatTbO
import Derived.Test.YtpepepkfjimoeaaGreatProg
import Derived.ProofKit
import Derived.Test.YtpepepkfjimoeaaGreatVh
namespace Go.Proofs.YtpepepkfjimoeaaGreat
open Go.Proofs.YtpepepkfjimoeaaGreat.Ev
set_option maxRecDepth 100000

def TbE11 : Ent := ⟨22, (.cons (.str 29 3376253342833732781486525492444657589092688607485416778619421635931753) .nil), ⟨[], 28108⟩, (.tup (avs [(.sl 39721 0 19 4 false), (.agg (avs [(nu 0), (nu 0)]))])), ⟨[TbO64, TbO65, TbO66, TbO67, TbO68, TbO69, TbO70, TbO71, TbO72, TbO73, TbO74, TbO75, TbO76, TbO77, TbO78, TbO79, TbO80, TbO81, TbO82], 39722⟩⟩
theorem TbT11 : Ent.check Tryz.prog [] 990 TbE11 = true := by kernel_rfl
theorem TbK11 : TbE11.Ok Tryz.prog := Ent.ok_of mixed Tab.ok_nil TbT11
def TbE12 : Ent := ⟨171, (.cons (.ptr 39723 0) (.cons (nu 3) (.cons (nu 3) .nil))), ⟨[TbO64, TbO65, TbO66, TbO67, TbO68, TbO69, TbO70, TbO71, TbO72, TbO73, TbO74, TbO75, TbO76, TbO77, TbO78, TbO79, TbO80, TbO81, TbO82, TbO83], 39853⟩, (.agg (avs [(nu 2), (nu 0), (nu 0), (nu 0), (.str 1 112), (nu 0), .nils, (nu 24)])), ⟨[TbO64, TbO65, TbO66, TbO67, TbO68, TbO69, TbO70, TbO71, TbO72, TbO73, TbO74, TbO75, TbO76, TbO77, TbO78, TbO79, TbO80, TbO81, TbO82, TbO84], 40048⟩⟩
theorem TbT12 : Ent.check Tryz.prog [] 990 TbE12 = true := by kernel_rfl
theorem TbK12 : TbE12.Ok Tryz.prog := Ent.ok_of mixed Tab.ok_nil TbT12
def TbE13 : Ent := ⟨171, (.cons (.ptr 39723 0) (.cons (nu 4) (.cons (nu 3) .nil))), ⟨[TbO64, TbO65, TbO66, TbO67, TbO68, TbO69, TbO70, TbO71, TbO72, TbO73, TbO74, TbO75, TbO76, TbO77, TbO78, TbO79, TbO80, TbO81, TbO82, TbO85], 40129⟩, (.agg (avs [(nu 2), (nu 0), (nu 0), (nu 0), (.str 1 113), (nu 0), .nils, (nu 26)])), ⟨[TbO64, TbO65, TbO66, TbO67, TbO68, TbO69, TbO70, TbO71, TbO72, TbO73, TbO74, TbO75, TbO76, TbO77, TbO78, TbO79, TbO80, TbO81, TbO82, TbO86], 40324⟩⟩
theorem TbT13 : Ent.check Tryz.prog [] 990 TbE13 = true := by kernel_rfl
theorem TbK13 : TbE13.Ok Tryz.prog := Ent.ok_of mixed Tab.ok_nil TbT13
def TbE14 : Ent := ⟨87, (.cons (.ptr 39723 0) (.cons (nu 2) .nil)), ⟨[TbO64, TbO65, TbO66, TbO67, TbO68, TbO69, TbO70, TbO71, TbO72, TbO73, TbO74, TbO75, TbO76, TbO77, TbO78, TbO79, TbO80, TbO81, TbO82, TbO83], 39832⟩, (.agg (avs [(nu 1), (.sl 40413 0 1 8 true), .nils, (nu 0), (nu 0), (nu 0), (.str 0 0), (nu 0), (nu 24)])), ⟨[TbO64, TbO65, TbO66, TbO67, TbO68, TbO69, TbO70, TbO71, TbO72, TbO73, TbO74, TbO75, TbO76, TbO77, TbO78, TbO79, TbO80, TbO81, TbO82, TbO87, TbO88, TbO89], 40417⟩⟩
theorem TbT14 : Ent.check Tryz.prog [(171, [TbE12, TbE13])] 990 TbE14 = true := by kernel_rfl
theorem TbK14 : TbE14.Ok Tryz.prog := Ent.ok_of mixed (Tab.ok_cons (f := 171) (Ent.ok_cons TbK12 (Ent.ok_cons TbK13 Ent.ok_nil)) Tab.ok_nil) TbT14
def TbE15 : Ent := ⟨48, (.cons (.ptr 39723 0) (.cons (nu 1) .nil)), ⟨[TbO64, TbO65, TbO66, TbO67, TbO68, TbO69, TbO70, TbO71, TbO72, TbO73, TbO74, TbO75, TbO76, TbO77, TbO78, TbO79, TbO80, TbO81, TbO82, TbO90], 39753⟩, (.sl 40418 0 3 9 false), ⟨[TbO64, TbO65, TbO66, TbO67, TbO68, TbO69, TbO70, TbO71, TbO72, TbO73, TbO74, TbO75, TbO76, TbO77, TbO78, TbO79, TbO80, TbO81, TbO82, TbO91, TbO92, TbO93, TbO88, TbO89, TbO94], 40423⟩⟩
theorem TbT15 : Ent.check Tryz.prog [(87, [TbE14])] 990 TbE15 = true := by kernel_rfl
theorem TbK15 : TbE15.Ok Tryz.prog := Ent.ok_of mixed (Tab.ok_cons (f := 87) (Ent.ok_cons TbK14 Ent.ok_nil) Tab.ok_nil) TbT15
def TbE16 : Ent := ⟨17, (.cons (.agg (avs [.nils, (.sl 40436 0 1 8 false)])) .nil), ⟨[TbO92, TbO93, TbO88, TbO89, TbO94, TbO95], 40439⟩, (.tup (avs [(.agg (avs [.nils, .nils])), (.agg (avs [(nu 6), (nu 25)]))])), ⟨[TbO92, TbO93, TbO88, TbO89, TbO94, TbO95], 40886⟩⟩
theorem TbT16 : Ent.check Tryz.prog [] 990 TbE16 = true := by kernel_rfl
theorem TbK16 : TbE16.Ok Tryz.prog := Ent.ok_of mixed Tab.ok_nil TbT16
def TbE17 : Ent := ⟨22, (.cons (.str 24 3070660555600606854548080262456189850508668621701680229993) .nil), ⟨[], 40902⟩, (.tup (avs [(.sl 51244 0 17 4 false), (.agg (avs [(nu 0), (nu 0)]))])), ⟨[TbO96, TbO97, TbO98, TbO99, TbO100, TbO101, TbO102, TbO103, TbO104, TbO105, TbO106, TbO107, TbO108, TbO109, TbO110, TbO111, TbO112], 51245⟩⟩
theorem TbT17 : Ent.check Tryz.prog [] 990 TbE17 = true := by kernel_rfl
theorem TbK17 : TbE17.Ok Tryz.prog := Ent.ok_of mixed Tab.ok_nil TbT17
def TbE18 : Ent := ⟨171, (.cons (.ptr 51246 0) (.cons (nu 3) (.cons (nu 3) .nil))), ⟨[TbO96, TbO97, TbO98, TbO99, TbO100, TbO101, TbO102, TbO103, TbO104, TbO105, TbO106, TbO107, TbO108, TbO109, TbO110, TbO111, TbO112, TbO113], 51338⟩, (.agg (avs [(nu 2), (nu 0), (nu 0), (nu 0), (.str 1 112), (nu 0), .nils, (nu 17)])), ⟨[TbO96, TbO97, TbO98, TbO99, TbO100, TbO101, TbO102, TbO103, TbO104, TbO105, TbO106, TbO107, TbO108, TbO109, TbO110, TbO111, TbO112, TbO114], 51533⟩⟩
theorem TbT18 : Ent.check Tryz.prog [] 990 TbE18 = true := by kernel_rfl
theorem TbK18 : TbE18.Ok Tryz.prog := Ent.ok_of mixed Tab.ok_nil TbT18
def TbE19 : Ent := ⟨171, (.cons (.ptr 51246 0) (.cons (nu 4) (.cons (nu 8) .nil))), ⟨[TbO96, TbO97, TbO98, TbO99, TbO100, TbO101, TbO102, TbO103, TbO104, TbO105, TbO106, TbO107, TbO108, TbO109, TbO110, TbO111, TbO112, TbO115], 51619⟩, (.agg (avs [(nu 18), (nu 0), (nu 0), (nu 0), (.str 0 0), (nu 0), (.sl 51753 0 2 8 true), (nu 20)])), ⟨[TbO96, TbO97, TbO98, TbO99, TbO100, TbO101, TbO102, TbO103, TbO104, TbO105, TbO106, TbO107, TbO108, TbO109, TbO110, TbO111, TbO112, TbO116, TbO117], 51802⟩⟩
theorem TbT19 : Ent.check Tryz.prog [] 990 TbE19 = true := by kernel_rfl
theorem TbK19 : TbE19.Ok Tryz.prog := Ent.ok_of mixed Tab.ok_nil TbT19
def TbE20 : Ent := ⟨114, (.cons (.ptr 51246 0) (.cons (nu 3) .nil)), ⟨[TbO96, TbO97, TbO98, TbO99, TbO100, TbO101, TbO102, TbO103, TbO104, TbO105, TbO106, TbO107, TbO108, TbO109, TbO110, TbO111, TbO112, TbO113], 51333⟩, (.agg (avs [(nu 34), (nu 0), (nu 0), (nu 0), (.str 0 0), (nu 0), (.sl 51999 0 2 8 true), (nu 18)])), ⟨[TbO96, TbO97, TbO98, TbO99, TbO100, TbO101, TbO102, TbO103, TbO104, TbO105, TbO106, TbO107, TbO108, TbO109, TbO110, TbO111, TbO112, TbO116, TbO117, TbO118], 52006⟩⟩
theorem TbT20 : Ent.check Tryz.prog [(171, [TbE18, TbE19])] 990 TbE20 = true := by kernel_rfl
theorem TbK20 : TbE20.Ok Tryz.prog := Ent.ok_of mixed (Tab.ok_cons (f := 171) (Ent.ok_cons TbK18 (Ent.ok_cons TbK19 Ent.ok_nil)) Tab.ok_nil) TbT20
def TbE21 : Ent := ⟨48, (.cons (.ptr 51246 0) (.cons (nu 1) .nil)), ⟨[TbO96, TbO97, TbO98, TbO99, TbO100, TbO101, TbO102, TbO103, TbO104, TbO105, TbO106, TbO107, TbO108, TbO109, TbO110, TbO111, TbO112, TbO119], 51276⟩, (.sl 52011 0 2 9 false), ⟨[TbO96, TbO97, TbO98, TbO99, TbO100, TbO101, TbO102, TbO103, TbO104, TbO105, TbO106, TbO107, TbO108, TbO109, TbO110, TbO111, TbO112, TbO120, TbO121, TbO117, TbO118, TbO122, TbO123], 52016⟩⟩
theorem TbT21 : Ent.check Tryz.prog [(114, [TbE20])] 990 TbE21 = true := by kernel_rfl
theorem TbK21 : TbE21.Ok Tryz.prog := Ent.ok_of mixed (Tab.ok_cons (f := 114) (Ent.ok_cons TbK20 Ent.ok_nil) Tab.ok_nil) TbT21
def TbE22 : Ent := ⟨17, (.cons (.agg (avs [.nils, (.sl 52029 0 1 8 false)])) .nil), ⟨[TbO121, TbO117, TbO118, TbO122, TbO123, TbO124], 52032⟩, (.tup (avs [(.agg (avs [.nils, (.sl 52047 0 1 8 false)])), (.agg (avs [(nu 0), (nu 0)]))])), ⟨[TbO121, TbO117, TbO118, TbO122, TbO123, TbO124, TbO125, TbO126, TbO127, TbO128, TbO129, TbO130], 52408⟩⟩
theorem TbT22 : Ent.check Tryz.prog [] 990 TbE22 = true := by kernel_rfl
theorem TbK22 : TbE22.Ok Tryz.prog := Ent.ok_of mixed Tab.ok_nil TbT22
end Go.Proofs.YtpepepkfjimoeaaGreat

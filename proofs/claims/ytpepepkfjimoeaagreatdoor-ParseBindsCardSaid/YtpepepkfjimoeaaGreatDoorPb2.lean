/- Calls that were proved one by one: what the evaluator says. -/
import Derived.Test.YtpepepkfjimoeaaGreatDoorPbO
import Derived.Test.YtpepepkfjimoeaaGreatDoorProg
import Derived.ProofKit
import Derived.Test.YtpepepkfjimoeaaGreatDoorVy
import Derived.Test.YtpepepkfjimoeaaGreatDoorPb1
namespace Go.Proofs.YtpepepkfjimoeaaGreatDoor
open Go.Proofs.YtpepepkfjimoeaaGreatDoor.Ev
set_option maxRecDepth 100000

def PbE72 : Ent := ⟨161, (.cons (.ptr 20238 0) (.cons (nu 4) (.cons (nu 2) .nil))), ⟨[PbO118, PbO119], 20748⟩, (.agg (avs [(nu 2), (nu 0), (nu 0), (nu 0), (.str 1 97), (nu 0), .nils, (nu 12)])), ⟨[PbO118, PbO120], 21166⟩⟩
theorem PbT72 : Ent.check Tryz.prog known [(161, [PbE71])] 990 PbE72 = true := by kernel_rfl
theorem PbK72 {W : World} (hW : LibW W) : PbE72.Ok Tryz.prog (KG W) := Ent.ok_of mixed (known_ok hW) (Tab.ok_cons (f := 161) (Ent.ok_cons (PbK71 hW) Ent.ok_nil) Tab.ok_nil) PbT72
def PbE73 : Ent := ⟨161, (.cons (.ptr 20238 0) (.cons (nu 4) (.cons (nu 6) .nil))), ⟨[PbO118, PbO121], 21228⟩, (.agg (avs [(nu 2), (nu 0), (nu 0), (nu 0), (.str 1 98), (nu 0), .nils, (nu 15)])), ⟨[PbO118, PbO122], 21506⟩⟩
theorem PbT73 : Ent.check Tryz.prog known [] 990 PbE73 = true := by kernel_rfl
theorem PbK73 {W : World} (hW : LibW W) : PbE73.Ok Tryz.prog (KG W) := Ent.ok_of mixed (known_ok hW) Tab.ok_nil PbT73
def PbE74 : Ent := ⟨161, (.cons (.ptr 20238 0) (.cons (nu 4) (.cons (nu 1) .nil))), ⟨[PbO118, PbO119], 20747⟩, (.agg (avs [(nu 31), (nu 0), (nu 0), (nu 0), (.str 0 0), (nu 0), (.sl 21221 0 2 8 true), (nu 13)])), ⟨[PbO118, PbO122, PbO123], 21665⟩⟩
theorem PbT74 : Ent.check Tryz.prog known [(161, [PbE72, PbE73])] 990 PbE74 = true := by kernel_rfl
theorem PbK74 {W : World} (hW : LibW W) : PbE74.Ok Tryz.prog (KG W) := Ent.ok_of mixed (known_ok hW) (Tab.ok_cons (f := 161) (Ent.ok_cons (PbK72 hW) (Ent.ok_cons (PbK73 hW) Ent.ok_nil)) Tab.ok_nil) PbT74
def PbE75 : Ent := ⟨161, (.cons (.ptr 20238 0) (.cons (nu 3) (.cons (nu 9) .nil))), ⟨[PbO118, PbO124], 20636⟩, (.agg (avs [(nu 31), (nu 0), (nu 0), (nu 0), (.str 0 0), (nu 0), (.sl 21221 0 2 8 true), (nu 13)])), ⟨[PbO118, PbO125, PbO123], 21854⟩⟩
theorem PbT75 : Ent.check Tryz.prog known [(161, [PbE74])] 990 PbE75 = true := by kernel_rfl
theorem PbK75 {W : World} (hW : LibW W) : PbE75.Ok Tryz.prog (KG W) := Ent.ok_of mixed (known_ok hW) (Tab.ok_cons (f := 161) (Ent.ok_cons (PbK74 hW) Ent.ok_nil) Tab.ok_nil) PbT75
def PbE76 : Ent := ⟨161, (.cons (.ptr 20238 0) (.cons (nu 3) (.cons (nu 5) .nil))), ⟨[PbO118, PbO124], 20632⟩, (.agg (avs [(nu 31), (nu 0), (nu 0), (nu 0), (.str 0 0), (nu 0), (.sl 21221 0 2 8 true), (nu 13)])), ⟨[PbO118, PbO125, PbO123], 21986⟩⟩
theorem PbT76 : Ent.check Tryz.prog known [(161, [PbE75])] 990 PbE76 = true := by kernel_rfl
theorem PbK76 {W : World} (hW : LibW W) : PbE76.Ok Tryz.prog (KG W) := Ent.ok_of mixed (known_ok hW) (Tab.ok_cons (f := 161) (Ent.ok_cons (PbK75 hW) Ent.ok_nil) Tab.ok_nil) PbT76
def PbE77 : Ent := ⟨161, (.cons (.ptr 20238 0) (.cons (nu 3) (.cons (nu 1) .nil))), ⟨[PbO118, PbO124], 20628⟩, (.agg (avs [(nu 31), (nu 0), (nu 0), (nu 0), (.str 0 0), (nu 0), (.sl 21221 0 2 8 true), (nu 13)])), ⟨[PbO118, PbO125, PbO123], 22118⟩⟩
theorem PbT77 : Ent.check Tryz.prog known [(161, [PbE76])] 990 PbE77 = true := by kernel_rfl
theorem PbK77 {W : World} (hW : LibW W) : PbE77.Ok Tryz.prog (KG W) := Ent.ok_of mixed (known_ok hW) (Tab.ok_cons (f := 161) (Ent.ok_cons (PbK76 hW) Ent.ok_nil) Tab.ok_nil) PbT77
def PbE78 : Ent := ⟨161, (.cons (.ptr 20238 0) (.cons (nu 3) (.cons (nu 6) .nil))), ⟨[PbO118, PbO126], 22181⟩, (.agg (avs [(nu 2), (nu 0), (nu 0), (nu 0), (.str 1 99), (nu 0), .nils, (nu 19)])), ⟨[PbO118, PbO127], 22459⟩⟩
theorem PbT78 : Ent.check Tryz.prog known [] 990 PbE78 = true := by kernel_rfl
theorem PbK78 {W : World} (hW : LibW W) : PbE78.Ok Tryz.prog (KG W) := Ent.ok_of mixed (known_ok hW) Tab.ok_nil PbT78
def PbE79 : Ent := ⟨161, (.cons (.ptr 20238 0) (.cons (nu 3) (.cons (nu 1) .nil))), ⟨[PbO118, PbO126], 22176⟩, (.agg (avs [(nu 2), (nu 0), (nu 0), (nu 0), (.str 1 99), (nu 0), .nils, (nu 19)])), ⟨[PbO118, PbO127], 22619⟩⟩
theorem PbT79 : Ent.check Tryz.prog known [(161, [PbE78])] 990 PbE79 = true := by kernel_rfl
theorem PbK79 {W : World} (hW : LibW W) : PbE79.Ok Tryz.prog (KG W) := Ent.ok_of mixed (known_ok hW) (Tab.ok_cons (f := 161) (Ent.ok_cons (PbK78 hW) Ent.ok_nil) Tab.ok_nil) PbT79
def PbE80 : Ent := ⟨94, (.cons (.ptr 20238 0) (.cons (nu 2) .nil)), ⟨[PbO118, PbO124], 20550⟩, (.agg (avs [(nu 1), (.sl 22692 0 1 8 true), .nils, (nu 0), (nu 0), (nu 0), (.str 0 0), (nu 0), (nu 11)])), ⟨[PbO118, PbO128, PbO123, PbO129, PbO130], 22720⟩⟩
theorem PbT80 : Ent.check Tryz.prog known [(161, [PbE77, PbE79])] 990 PbE80 = true := by kernel_rfl
theorem PbK80 {W : World} (hW : LibW W) : PbE80.Ok Tryz.prog (KG W) := Ent.ok_of mixed (known_ok hW) (Tab.ok_cons (f := 161) (Ent.ok_cons (PbK77 hW) (Ent.ok_cons (PbK79 hW) Ent.ok_nil)) Tab.ok_nil) PbT80
def PbE81 : Ent := ⟨15, (.cons (.str 22 PbS10) .nil), ⟨[], 22974⟩, (.tup (avs [(.sl 23103 0 17 4 false), (.agg (avs [(nu 0), (nu 0)]))])), ⟨[PbO131], 23104⟩⟩
theorem PbT81 : Ent.check Tryz.prog known [] 990 PbE81 = true := by kernel_rfl
theorem PbK81 {W : World} (hW : LibW W) : PbE81.Ok Tryz.prog (KG W) := Ent.ok_of mixed (known_ok hW) Tab.ok_nil PbT81
def PbE82 : Ent := ⟨161, (.cons (.ptr 23105 0) (.cons (nu 3) (.cons (nu 6) .nil))), ⟨[PbO131, PbO132], 23500⟩, (.agg (avs [(nu 2), (nu 0), (nu 0), (nu 0), (.str 1 97), (nu 0), .nils, (nu 11)])), ⟨[PbO131, PbO133], 23778⟩⟩
theorem PbT82 : Ent.check Tryz.prog known [] 990 PbE82 = true := by kernel_rfl
theorem PbK82 {W : World} (hW : LibW W) : PbE82.Ok Tryz.prog (KG W) := Ent.ok_of mixed (known_ok hW) Tab.ok_nil PbT82
def PbE83 : Ent := ⟨161, (.cons (.ptr 23105 0) (.cons (nu 3) (.cons (nu 1) .nil))), ⟨[PbO131, PbO132], 23495⟩, (.agg (avs [(nu 2), (nu 0), (nu 0), (nu 0), (.str 1 97), (nu 0), .nils, (nu 11)])), ⟨[PbO131, PbO133], 23938⟩⟩
theorem PbT83 : Ent.check Tryz.prog known [(161, [PbE82])] 990 PbE83 = true := by kernel_rfl
theorem PbK83 {W : World} (hW : LibW W) : PbE83.Ok Tryz.prog (KG W) := Ent.ok_of mixed (known_ok hW) (Tab.ok_cons (f := 161) (Ent.ok_cons (PbK82 hW) Ent.ok_nil) Tab.ok_nil) PbT83
def PbE84 : Ent := ⟨161, (.cons (.ptr 23105 0) (.cons (nu 4) (.cons (nu 6) .nil))), ⟨[PbO131, PbO134], 24019⟩, (.agg (avs [(nu 2), (nu 0), (nu 0), (nu 0), (.str 1 98), (nu 0), .nils, (nu 13)])), ⟨[PbO131, PbO135], 24297⟩⟩
theorem PbT84 : Ent.check Tryz.prog known [] 990 PbE84 = true := by kernel_rfl
theorem PbK84 {W : World} (hW : LibW W) : PbE84.Ok Tryz.prog (KG W) := Ent.ok_of mixed (known_ok hW) Tab.ok_nil PbT84
def PbE85 : Ent := ⟨161, (.cons (.ptr 23105 0) (.cons (nu 4) (.cons (nu 1) .nil))), ⟨[PbO131, PbO134], 24014⟩, (.agg (avs [(nu 2), (nu 0), (nu 0), (nu 0), (.str 1 98), (nu 0), .nils, (nu 13)])), ⟨[PbO131, PbO135], 24457⟩⟩
theorem PbT85 : Ent.check Tryz.prog known [(161, [PbE84])] 990 PbE85 = true := by kernel_rfl
theorem PbK85 {W : World} (hW : LibW W) : PbE85.Ok Tryz.prog (KG W) := Ent.ok_of mixed (known_ok hW) (Tab.ok_cons (f := 161) (Ent.ok_cons (PbK84 hW) Ent.ok_nil) Tab.ok_nil) PbT85
def PbE86 : Ent := ⟨161, (.cons (.ptr 23105 0) (.cons (nu 4) (.cons (nu 6) .nil))), ⟨[PbO131, PbO136], 24566⟩, (.agg (avs [(nu 2), (nu 0), (nu 0), (nu 0), (.str 1 99), (nu 0), .nils, (nu 15)])), ⟨[PbO131, PbO137], 24844⟩⟩
theorem PbT86 : Ent.check Tryz.prog known [] 990 PbE86 = true := by kernel_rfl
theorem PbK86 {W : World} (hW : LibW W) : PbE86.Ok Tryz.prog (KG W) := Ent.ok_of mixed (known_ok hW) Tab.ok_nil PbT86
def PbE87 : Ent := ⟨161, (.cons (.ptr 23105 0) (.cons (nu 4) (.cons (nu 1) .nil))), ⟨[PbO131, PbO136], 24561⟩, (.agg (avs [(nu 2), (nu 0), (nu 0), (nu 0), (.str 1 99), (nu 0), .nils, (nu 15)])), ⟨[PbO131, PbO137], 25004⟩⟩
theorem PbT87 : Ent.check Tryz.prog known [(161, [PbE86])] 990 PbE87 = true := by kernel_rfl
theorem PbK87 {W : World} (hW : LibW W) : PbE87.Ok Tryz.prog (KG W) := Ent.ok_of mixed (known_ok hW) (Tab.ok_cons (f := 161) (Ent.ok_cons (PbK86 hW) Ent.ok_nil) Tab.ok_nil) PbT87
def PbE88 : Ent := ⟨161, (.cons (.ptr 23105 0) (.cons (nu 5) (.cons (nu 6) .nil))), ⟨[PbO131, PbO138], 25085⟩, (.agg (avs [(nu 2), (nu 0), (nu 0), (nu 0), (.str 1 100), (nu 0), .nils, (nu 17)])), ⟨[PbO131, PbO139], 25363⟩⟩
theorem PbT88 : Ent.check Tryz.prog known [] 990 PbE88 = true := by kernel_rfl
theorem PbK88 {W : World} (hW : LibW W) : PbE88.Ok Tryz.prog (KG W) := Ent.ok_of mixed (known_ok hW) Tab.ok_nil PbT88
def PbE89 : Ent := ⟨161, (.cons (.ptr 23105 0) (.cons (nu 5) (.cons (nu 1) .nil))), ⟨[PbO131, PbO138], 25080⟩, (.agg (avs [(nu 2), (nu 0), (nu 0), (nu 0), (.str 1 100), (nu 0), .nils, (nu 17)])), ⟨[PbO131, PbO139], 25523⟩⟩
theorem PbT89 : Ent.check Tryz.prog known [(161, [PbE88])] 990 PbE89 = true := by kernel_rfl
theorem PbK89 {W : World} (hW : LibW W) : PbE89.Ok Tryz.prog (KG W) := Ent.ok_of mixed (known_ok hW) (Tab.ok_cons (f := 161) (Ent.ok_cons (PbK88 hW) Ent.ok_nil) Tab.ok_nil) PbT89
def PbE90 : Ent := ⟨161, (.cons (.ptr 23105 0) (.cons (nu 5) (.cons (nu 6) .nil))), ⟨[PbO131, PbO140], 25632⟩, (.agg (avs [(nu 2), (nu 0), (nu 0), (nu 0), (.str 1 97), (nu 0), .nils, (nu 19)])), ⟨[PbO131, PbO141], 25910⟩⟩
theorem PbT90 : Ent.check Tryz.prog known [] 990 PbE90 = true := by kernel_rfl
theorem PbK90 {W : World} (hW : LibW W) : PbE90.Ok Tryz.prog (KG W) := Ent.ok_of mixed (known_ok hW) Tab.ok_nil PbT90
def PbE91 : Ent := ⟨161, (.cons (.ptr 23105 0) (.cons (nu 5) (.cons (nu 1) .nil))), ⟨[PbO131, PbO140], 25627⟩, (.agg (avs [(nu 2), (nu 0), (nu 0), (nu 0), (.str 1 97), (nu 0), .nils, (nu 19)])), ⟨[PbO131, PbO141], 26070⟩⟩
theorem PbT91 : Ent.check Tryz.prog known [(161, [PbE90])] 990 PbE91 = true := by kernel_rfl
theorem PbK91 {W : World} (hW : LibW W) : PbE91.Ok Tryz.prog (KG W) := Ent.ok_of mixed (known_ok hW) (Tab.ok_cons (f := 161) (Ent.ok_cons (PbK90 hW) Ent.ok_nil) Tab.ok_nil) PbT91
def PbE92 : Ent := ⟨140, (.cons (.ptr 23105 0) (.cons (nu 4) .nil)), ⟨[PbO131, PbO136], 24559⟩, (.agg (avs [(nu 33), (nu 0), (nu 0), (nu 0), (.str 0 0), (nu 0), (.sl 26130 0 3 8 true), (nu 16)])), ⟨[PbO131, PbO141, PbO142], 26131⟩⟩
theorem PbT92 : Ent.check Tryz.prog known [(161, [PbE87, PbE89, PbE91])] 990 PbE92 = true := by kernel_rfl
theorem PbK92 {W : World} (hW : LibW W) : PbE92.Ok Tryz.prog (KG W) := Ent.ok_of mixed (known_ok hW) (Tab.ok_cons (f := 161) (Ent.ok_cons (PbK87 hW) (Ent.ok_cons (PbK89 hW) (Ent.ok_cons (PbK91 hW) Ent.ok_nil))) Tab.ok_nil) PbT92
def PbE93 : Ent := ⟨119, (.cons (.ptr 23105 0) (.cons (nu 3) .nil)), ⟨[PbO131, PbO132], 23492⟩, (.agg (avs [(nu 33), (nu 0), (nu 0), (nu 0), (.str 0 0), (nu 0), (.sl 26132 0 3 8 true), (nu 12)])), ⟨[PbO131, PbO141, PbO142, PbO143], 26148⟩⟩
theorem PbT93 : Ent.check Tryz.prog known [(161, [PbE83, PbE85]), (140, [PbE92])] 990 PbE93 = true := by kernel_rfl
theorem PbK93 {W : World} (hW : LibW W) : PbE93.Ok Tryz.prog (KG W) := Ent.ok_of mixed (known_ok hW) (Tab.ok_cons (f := 161) (Ent.ok_cons (PbK83 hW) (Ent.ok_cons (PbK85 hW) Ent.ok_nil)) (Tab.ok_cons (f := 140) (Ent.ok_cons (PbK92 hW) Ent.ok_nil) Tab.ok_nil)) PbT93
def PbE94 : Ent := ⟨5, (.cons (.str 22 PbS10) .nil), ⟨[], 22972⟩, (.tup (avs [(.agg (avs [.nils, (.sl 26229 0 1 8 false)])), (.agg (avs [(nu 0), (nu 0)]))])), ⟨[PbO142, PbO143, PbO144, PbO145, PbO146], 26242⟩⟩
theorem PbT94 : Ent.check Tryz.prog known [(15, [PbE81]), (119, [PbE93])] 990 PbE94 = true := by kernel_rfl
theorem PbK94 {W : World} (hW : LibW W) : PbE94.Ok Tryz.prog (KG W) := Ent.ok_of mixed (known_ok hW) (Tab.ok_cons (f := 15) (Ent.ok_cons (PbK81 hW) Ent.ok_nil) (Tab.ok_cons (f := 119) (Ent.ok_cons (PbK93 hW) Ent.ok_nil) Tab.ok_nil)) PbT94
def PbE95 : Ent := ⟨15, (.cons (.str 24 PbS11) .nil), ⟨[], 26246⟩, (.tup (avs [(.sl 26383 0 19 4 false), (.agg (avs [(nu 0), (nu 0)]))])), ⟨[PbO147], 26384⟩⟩
theorem PbT95 : Ent.check Tryz.prog known [] 990 PbE95 = true := by kernel_rfl
theorem PbK95 {W : World} (hW : LibW W) : PbE95.Ok Tryz.prog (KG W) := Ent.ok_of mixed (known_ok hW) Tab.ok_nil PbT95
def PbE96 : Ent := ⟨161, (.cons (.ptr 26385 0) (.cons (nu 3) (.cons (nu 6) .nil))), ⟨[PbO147, PbO148], 26780⟩, (.agg (avs [(nu 2), (nu 0), (nu 0), (nu 0), (.str 1 97), (nu 0), .nils, (nu 11)])), ⟨[PbO147, PbO149], 27058⟩⟩
theorem PbT96 : Ent.check Tryz.prog known [] 990 PbE96 = true := by kernel_rfl
theorem PbK96 {W : World} (hW : LibW W) : PbE96.Ok Tryz.prog (KG W) := Ent.ok_of mixed (known_ok hW) Tab.ok_nil PbT96
def PbE97 : Ent := ⟨161, (.cons (.ptr 26385 0) (.cons (nu 3) (.cons (nu 1) .nil))), ⟨[PbO147, PbO148], 26775⟩, (.agg (avs [(nu 2), (nu 0), (nu 0), (nu 0), (.str 1 97), (nu 0), .nils, (nu 11)])), ⟨[PbO147, PbO149], 27218⟩⟩
theorem PbT97 : Ent.check Tryz.prog known [(161, [PbE96])] 990 PbE97 = true := by kernel_rfl
theorem PbK97 {W : World} (hW : LibW W) : PbE97.Ok Tryz.prog (KG W) := Ent.ok_of mixed (known_ok hW) (Tab.ok_cons (f := 161) (Ent.ok_cons (PbK96 hW) Ent.ok_nil) Tab.ok_nil) PbT97
def PbE98 : Ent := ⟨161, (.cons (.ptr 26385 0) (.cons (nu 4) (.cons (nu 6) .nil))), ⟨[PbO147, PbO150], 27299⟩, (.agg (avs [(nu 2), (nu 0), (nu 0), (nu 0), (.str 1 98), (nu 0), .nils, (nu 13)])), ⟨[PbO147, PbO151], 27577⟩⟩
theorem PbT98 : Ent.check Tryz.prog known [] 990 PbE98 = true := by kernel_rfl
theorem PbK98 {W : World} (hW : LibW W) : PbE98.Ok Tryz.prog (KG W) := Ent.ok_of mixed (known_ok hW) Tab.ok_nil PbT98
def PbE99 : Ent := ⟨161, (.cons (.ptr 26385 0) (.cons (nu 4) (.cons (nu 1) .nil))), ⟨[PbO147, PbO150], 27294⟩, (.agg (avs [(nu 2), (nu 0), (nu 0), (nu 0), (.str 1 98), (nu 0), .nils, (nu 13)])), ⟨[PbO147, PbO151], 27737⟩⟩
theorem PbT99 : Ent.check Tryz.prog known [(161, [PbE98])] 990 PbE99 = true := by kernel_rfl
theorem PbK99 {W : World} (hW : LibW W) : PbE99.Ok Tryz.prog (KG W) := Ent.ok_of mixed (known_ok hW) (Tab.ok_cons (f := 161) (Ent.ok_cons (PbK98 hW) Ent.ok_nil) Tab.ok_nil) PbT99
def PbE100 : Ent := ⟨161, (.cons (.ptr 26385 0) (.cons (nu 5) (.cons (nu 6) .nil))), ⟨[PbO147, PbO152], 27965⟩, (.agg (avs [(nu 2), (nu 0), (nu 0), (nu 0), (.str 1 99), (nu 0), .nils, (nu 16)])), ⟨[PbO147, PbO153], 28243⟩⟩
theorem PbT100 : Ent.check Tryz.prog known [] 990 PbE100 = true := by kernel_rfl
theorem PbK100 {W : World} (hW : LibW W) : PbE100.Ok Tryz.prog (KG W) := Ent.ok_of mixed (known_ok hW) Tab.ok_nil PbT100
def PbE101 : Ent := ⟨161, (.cons (.ptr 26385 0) (.cons (nu 5) (.cons (nu 1) .nil))), ⟨[PbO147, PbO152], 27960⟩, (.agg (avs [(nu 2), (nu 0), (nu 0), (nu 0), (.str 1 99), (nu 0), .nils, (nu 16)])), ⟨[PbO147, PbO153], 28403⟩⟩
theorem PbT101 : Ent.check Tryz.prog known [(161, [PbE100])] 990 PbE101 = true := by kernel_rfl
theorem PbK101 {W : World} (hW : LibW W) : PbE101.Ok Tryz.prog (KG W) := Ent.ok_of mixed (known_ok hW) (Tab.ok_cons (f := 161) (Ent.ok_cons (PbK100 hW) Ent.ok_nil) Tab.ok_nil) PbT101
def PbE102 : Ent := ⟨161, (.cons (.ptr 26385 0) (.cons (nu 6) (.cons (nu 6) .nil))), ⟨[PbO147, PbO154], 28484⟩, (.agg (avs [(nu 2), (nu 0), (nu 0), (nu 0), (.str 1 100), (nu 0), .nils, (nu 18)])), ⟨[PbO147, PbO155], 28762⟩⟩
theorem PbT102 : Ent.check Tryz.prog known [] 990 PbE102 = true := by kernel_rfl
theorem PbK102 {W : World} (hW : LibW W) : PbE102.Ok Tryz.prog (KG W) := Ent.ok_of mixed (known_ok hW) Tab.ok_nil PbT102
def PbE103 : Ent := ⟨161, (.cons (.ptr 26385 0) (.cons (nu 6) (.cons (nu 1) .nil))), ⟨[PbO147, PbO154], 28479⟩, (.agg (avs [(nu 2), (nu 0), (nu 0), (nu 0), (.str 1 100), (nu 0), .nils, (nu 18)])), ⟨[PbO147, PbO155], 28922⟩⟩
theorem PbT103 : Ent.check Tryz.prog known [(161, [PbE102])] 990 PbE103 = true := by kernel_rfl
theorem PbK103 {W : World} (hW : LibW W) : PbE103.Ok Tryz.prog (KG W) := Ent.ok_of mixed (known_ok hW) (Tab.ok_cons (f := 161) (Ent.ok_cons (PbK102 hW) Ent.ok_nil) Tab.ok_nil) PbT103
def PbE104 : Ent := ⟨161, (.cons (.ptr 26385 0) (.cons (nu 6) (.cons (nu 6) .nil))), ⟨[PbO147, PbO156], 29031⟩, (.agg (avs [(nu 2), (nu 0), (nu 0), (nu 0), (.str 1 97), (nu 0), .nils, (nu 20)])), ⟨[PbO147, PbO157], 29309⟩⟩
theorem PbT104 : Ent.check Tryz.prog known [] 990 PbE104 = true := by kernel_rfl
theorem PbK104 {W : World} (hW : LibW W) : PbE104.Ok Tryz.prog (KG W) := Ent.ok_of mixed (known_ok hW) Tab.ok_nil PbT104
def PbE105 : Ent := ⟨161, (.cons (.ptr 26385 0) (.cons (nu 6) (.cons (nu 1) .nil))), ⟨[PbO147, PbO156], 29026⟩, (.agg (avs [(nu 2), (nu 0), (nu 0), (nu 0), (.str 1 97), (nu 0), .nils, (nu 20)])), ⟨[PbO147, PbO157], 29469⟩⟩
theorem PbT105 : Ent.check Tryz.prog known [(161, [PbE104])] 990 PbE105 = true := by kernel_rfl
theorem PbK105 {W : World} (hW : LibW W) : PbE105.Ok Tryz.prog (KG W) := Ent.ok_of mixed (known_ok hW) (Tab.ok_cons (f := 161) (Ent.ok_cons (PbK104 hW) Ent.ok_nil) Tab.ok_nil) PbT105
def PbE106 : Ent := ⟨140, (.cons (.ptr 26385 0) (.cons (nu 5) .nil)), ⟨[PbO147, PbO152], 27958⟩, (.agg (avs [(nu 33), (nu 0), (nu 0), (nu 0), (.str 0 0), (nu 0), (.sl 29529 0 3 8 true), (nu 17)])), ⟨[PbO147, PbO157, PbO158], 29530⟩⟩
theorem PbT106 : Ent.check Tryz.prog known [(161, [PbE101, PbE103, PbE105])] 990 PbE106 = true := by kernel_rfl
theorem PbK106 {W : World} (hW : LibW W) : PbE106.Ok Tryz.prog (KG W) := Ent.ok_of mixed (known_ok hW) (Tab.ok_cons (f := 161) (Ent.ok_cons (PbK101 hW) (Ent.ok_cons (PbK103 hW) (Ent.ok_cons (PbK105 hW) Ent.ok_nil))) Tab.ok_nil) PbT106
def PbE107 : Ent := ⟨161, (.cons (.ptr 26385 0) (.cons (nu 4) (.cons (nu 8) .nil))), ⟨[PbO147, PbO159], 27848⟩, (.agg (avs [(nu 33), (nu 0), (nu 0), (nu 0), (.str 0 0), (nu 0), (.sl 29529 0 3 8 true), (nu 17)])), ⟨[PbO147, PbO160, PbO158], 29691⟩⟩
theorem PbT107 : Ent.check Tryz.prog known [(140, [PbE106])] 990 PbE107 = true := by kernel_rfl
theorem PbK107 {W : World} (hW : LibW W) : PbE107.Ok Tryz.prog (KG W) := Ent.ok_of mixed (known_ok hW) (Tab.ok_cons (f := 140) (Ent.ok_cons (PbK106 hW) Ent.ok_nil) Tab.ok_nil) PbT107
def PbE108 : Ent := ⟨161, (.cons (.ptr 26385 0) (.cons (nu 4) (.cons (nu 3) .nil))), ⟨[PbO147, PbO159], 27843⟩, (.agg (avs [(nu 33), (nu 0), (nu 0), (nu 0), (.str 0 0), (nu 0), (.sl 29529 0 3 8 true), (nu 17)])), ⟨[PbO147, PbO160, PbO158], 29851⟩⟩
theorem PbT108 : Ent.check Tryz.prog known [(161, [PbE107])] 990 PbE108 = true := by kernel_rfl
theorem PbK108 {W : World} (hW : LibW W) : PbE108.Ok Tryz.prog (KG W) := Ent.ok_of mixed (known_ok hW) (Tab.ok_cons (f := 161) (Ent.ok_cons (PbK107 hW) Ent.ok_nil) Tab.ok_nil) PbT108
def PbE109 : Ent := ⟨140, (.cons (.ptr 26385 0) (.cons (nu 3) .nil)), ⟨[PbO147, PbO148], 26773⟩, (.agg (avs [(nu 33), (nu 0), (nu 0), (nu 0), (.str 0 0), (nu 0), (.sl 29975 0 3 8 true), (nu 12)])), ⟨[PbO147, PbO160, PbO158, PbO161], 29976⟩⟩
theorem PbT109 : Ent.check Tryz.prog known [(161, [PbE97, PbE99, PbE108])] 990 PbE109 = true := by kernel_rfl
theorem PbK109 {W : World} (hW : LibW W) : PbE109.Ok Tryz.prog (KG W) := Ent.ok_of mixed (known_ok hW) (Tab.ok_cons (f := 161) (Ent.ok_cons (PbK97 hW) (Ent.ok_cons (PbK99 hW) (Ent.ok_cons (PbK108 hW) Ent.ok_nil))) Tab.ok_nil) PbT109
def PbE110 : Ent := ⟨18, (.cons (.ptr 26385 0) (.cons (.ptr 26386 0) .nil)), ⟨[PbO147, PbO162, PbO163], 26399⟩, (.tup (avs [])), ⟨[PbO147, PbO164, PbO165, PbO158, PbO161, PbO166, PbO167, PbO168], 30073⟩⟩
theorem PbT110 : Ent.check Tryz.prog known [(140, [PbE109])] 990 PbE110 = true := by kernel_rfl
theorem PbK110 {W : World} (hW : LibW W) : PbE110.Ok Tryz.prog (KG W) := Ent.ok_of mixed (known_ok hW) (Tab.ok_cons (f := 140) (Ent.ok_cons (PbK109 hW) Ent.ok_nil) Tab.ok_nil) PbT110
end Go.Proofs.YtpepepkfjimoeaaGreatDoor

/- Calls that were proved one by one: what the evaluator says. -/
import Derived.Test.YtpepepkfjimoeaaGreatDoorDsO
import Derived.Test.YtpepepkfjimoeaaGreatDoorProg
import Derived.ProofKit
import Derived.Test.YtpepepkfjimoeaaGreatDoorVy
namespace Go.Proofs.YtpepepkfjimoeaaGreatDoor
open Go.Proofs.YtpepepkfjimoeaaGreatDoor.Ev
set_option maxRecDepth 100000

def DsE60 : Ent := ⟨30, (.cons (.str 450 DsS59) (.cons (.str 1 10) .nil)), ⟨[], 4066⟩, (.tup (avs [(.str 26 DsS60), (.str 423 DsS61), (.bool true)])), ⟨[], 4078⟩⟩
theorem DsT60 : Ent.check Tryz.prog known [] 990 DsE60 = true := by kernel_rfl
theorem DsK60 {W : World} (hW : LibW W) : DsE60.Ok Tryz.prog (KG W) := Ent.ok_of mixed (known_ok hW) Tab.ok_nil DsT60
def DsE61 : Ent := ⟨32, (.cons (.ptr 4115 0) .nil), ⟨[DsO87], 4116⟩, (.tup (avs [(.agg (avs [(nu 25), (nu 0), (.sl 4171 0 2 3 false)])), (.bool true)])), ⟨[DsO88, DsO89], 4183⟩⟩
theorem DsT61 : Ent.check Tryz.prog known [] 990 DsE61 = true := by kernel_rfl
theorem DsK61 {W : World} (hW : LibW W) : DsE61.Ok Tryz.prog (KG W) := Ent.ok_of mixed (known_ok hW) Tab.ok_nil DsT61
def DsE62 : Ent := ⟨30, (.cons (.str 423 DsS61) (.cons (.str 1 10) .nil)), ⟨[], 4197⟩, (.tup (avs [(.str 27 DsS62), (.str 395 DsS63), (.bool true)])), ⟨[], 4209⟩⟩
theorem DsT62 : Ent.check Tryz.prog known [] 990 DsE62 = true := by kernel_rfl
theorem DsK62 {W : World} (hW : LibW W) : DsE62.Ok Tryz.prog (KG W) := Ent.ok_of mixed (known_ok hW) Tab.ok_nil DsT62
def DsE63 : Ent := ⟨32, (.cons (.ptr 4246 0) .nil), ⟨[DsO90], 4247⟩, (.tup (avs [(.agg (avs [(nu 25), (nu 0), (.sl 4302 0 2 3 false)])), (.bool true)])), ⟨[DsO91, DsO92], 4314⟩⟩
theorem DsT63 : Ent.check Tryz.prog known [] 990 DsE63 = true := by kernel_rfl
theorem DsK63 {W : World} (hW : LibW W) : DsE63.Ok Tryz.prog (KG W) := Ent.ok_of mixed (known_ok hW) Tab.ok_nil DsT63
def DsE64 : Ent := ⟨30, (.cons (.str 395 DsS63) (.cons (.str 1 10) .nil)), ⟨[], 4328⟩, (.tup (avs [(.str 26 DsS64), (.str 368 DsS65), (.bool true)])), ⟨[], 4340⟩⟩
theorem DsT64 : Ent.check Tryz.prog known [] 990 DsE64 = true := by kernel_rfl
theorem DsK64 {W : World} (hW : LibW W) : DsE64.Ok Tryz.prog (KG W) := Ent.ok_of mixed (known_ok hW) Tab.ok_nil DsT64
def DsE65 : Ent := ⟨32, (.cons (.ptr 4377 0) .nil), ⟨[DsO93], 4378⟩, (.tup (avs [(.agg (avs [(nu 26), (nu 0), (.sl 4434 0 2 3 false)])), (.bool true)])), ⟨[DsO94, DsO95], 4446⟩⟩
theorem DsT65 : Ent.check Tryz.prog known [] 990 DsE65 = true := by kernel_rfl
theorem DsK65 {W : World} (hW : LibW W) : DsE65.Ok Tryz.prog (KG W) := Ent.ok_of mixed (known_ok hW) Tab.ok_nil DsT65
def DsE66 : Ent := ⟨30, (.cons (.str 368 DsS65) (.cons (.str 1 10) .nil)), ⟨[], 4460⟩, (.tup (avs [(.str 27 DsS66), (.str 340 DsS67), (.bool true)])), ⟨[], 4472⟩⟩
theorem DsT66 : Ent.check Tryz.prog known [] 990 DsE66 = true := by kernel_rfl
theorem DsK66 {W : World} (hW : LibW W) : DsE66.Ok Tryz.prog (KG W) := Ent.ok_of mixed (known_ok hW) Tab.ok_nil DsT66
def DsE67 : Ent := ⟨32, (.cons (.ptr 4509 0) .nil), ⟨[DsO96], 4510⟩, (.tup (avs [(.agg (avs [(nu 26), (nu 0), (.sl 4566 0 2 3 false)])), (.bool true)])), ⟨[DsO97, DsO98], 4578⟩⟩
theorem DsT67 : Ent.check Tryz.prog known [] 990 DsE67 = true := by kernel_rfl
theorem DsK67 {W : World} (hW : LibW W) : DsE67.Ok Tryz.prog (KG W) := Ent.ok_of mixed (known_ok hW) Tab.ok_nil DsT67
def DsE68 : Ent := ⟨30, (.cons (.str 340 DsS67) (.cons (.str 1 10) .nil)), ⟨[], 4592⟩, (.tup (avs [(.str 26 DsS68), (.str 313 DsS69), (.bool true)])), ⟨[], 4604⟩⟩
theorem DsT68 : Ent.check Tryz.prog known [] 990 DsE68 = true := by kernel_rfl
theorem DsK68 {W : World} (hW : LibW W) : DsE68.Ok Tryz.prog (KG W) := Ent.ok_of mixed (known_ok hW) Tab.ok_nil DsT68
def DsE69 : Ent := ⟨32, (.cons (.ptr 4641 0) .nil), ⟨[DsO99], 4642⟩, (.tup (avs [(.agg (avs [(nu 27), (nu 0), (.sl 4699 0 2 3 false)])), (.bool true)])), ⟨[DsO100, DsO101], 4711⟩⟩
theorem DsT69 : Ent.check Tryz.prog known [] 990 DsE69 = true := by kernel_rfl
theorem DsK69 {W : World} (hW : LibW W) : DsE69.Ok Tryz.prog (KG W) := Ent.ok_of mixed (known_ok hW) Tab.ok_nil DsT69
def DsE70 : Ent := ⟨30, (.cons (.str 313 DsS69) (.cons (.str 1 10) .nil)), ⟨[], 4725⟩, (.tup (avs [(.str 27 DsS70), (.str 285 DsS71), (.bool true)])), ⟨[], 4737⟩⟩
theorem DsT70 : Ent.check Tryz.prog known [] 990 DsE70 = true := by kernel_rfl
theorem DsK70 {W : World} (hW : LibW W) : DsE70.Ok Tryz.prog (KG W) := Ent.ok_of mixed (known_ok hW) Tab.ok_nil DsT70
def DsE71 : Ent := ⟨32, (.cons (.ptr 4774 0) .nil), ⟨[DsO102], 4775⟩, (.tup (avs [(.agg (avs [(nu 27), (nu 0), (.sl 4832 0 2 3 false)])), (.bool true)])), ⟨[DsO103, DsO104], 4844⟩⟩
theorem DsT71 : Ent.check Tryz.prog known [] 990 DsE71 = true := by kernel_rfl
theorem DsK71 {W : World} (hW : LibW W) : DsE71.Ok Tryz.prog (KG W) := Ent.ok_of mixed (known_ok hW) Tab.ok_nil DsT71
def DsE72 : Ent := ⟨30, (.cons (.str 285 DsS71) (.cons (.str 1 10) .nil)), ⟨[], 4858⟩, (.tup (avs [(.str 28 DsS72), (.str 256 DsS73), (.bool true)])), ⟨[], 4870⟩⟩
theorem DsT72 : Ent.check Tryz.prog known [] 990 DsE72 = true := by kernel_rfl
theorem DsK72 {W : World} (hW : LibW W) : DsE72.Ok Tryz.prog (KG W) := Ent.ok_of mixed (known_ok hW) Tab.ok_nil DsT72
def DsE73 : Ent := ⟨63, (.cons (.str 3 7697516) .nil), ⟨[], 4910⟩, (nu 28), ⟨[], 4938⟩⟩
theorem DsT73 : Ent.check Tryz.prog known [] 990 DsE73 = true := by kernel_rfl
theorem DsK73 {W : World} (hW : LibW W) : DsE73.Ok Tryz.prog (KG W) := Ent.ok_of mixed (known_ok hW) Tab.ok_nil DsT73
def DsE74 : Ent := ⟨32, (.cons (.ptr 4907 0) .nil), ⟨[DsO105], 4908⟩, (.tup (avs [(.agg (avs [(nu 28), (nu 0), (.sl 4966 0 2 3 false)])), (.bool true)])), ⟨[DsO106, DsO107], 4978⟩⟩
theorem DsT74 : Ent.check Tryz.prog known [(63, [DsE73])] 990 DsE74 = true := by kernel_rfl
theorem DsK74 {W : World} (hW : LibW W) : DsE74.Ok Tryz.prog (KG W) := Ent.ok_of mixed (known_ok hW) (Tab.ok_cons (f := 63) (Ent.ok_cons (DsK73 hW) Ent.ok_nil) Tab.ok_nil) DsT74
def DsE75 : Ent := ⟨30, (.cons (.str 256 DsS73) (.cons (.str 1 10) .nil)), ⟨[], 4992⟩, (.tup (avs [(.str 29 DsS74), (.str 226 DsS75), (.bool true)])), ⟨[], 5004⟩⟩
theorem DsT75 : Ent.check Tryz.prog known [] 990 DsE75 = true := by kernel_rfl
theorem DsK75 {W : World} (hW : LibW W) : DsE75.Ok Tryz.prog (KG W) := Ent.ok_of mixed (known_ok hW) Tab.ok_nil DsT75
def DsE76 : Ent := ⟨63, (.cons (.str 3 7697516) .nil), ⟨[], 5044⟩, (nu 28), ⟨[], 5072⟩⟩
theorem DsT76 : Ent.check Tryz.prog known [] 990 DsE76 = true := by kernel_rfl
theorem DsK76 {W : World} (hW : LibW W) : DsE76.Ok Tryz.prog (KG W) := Ent.ok_of mixed (known_ok hW) Tab.ok_nil DsT76
def DsE77 : Ent := ⟨32, (.cons (.ptr 5041 0) .nil), ⟨[DsO108], 5042⟩, (.tup (avs [(.agg (avs [(nu 28), (nu 0), (.sl 5100 0 2 3 false)])), (.bool true)])), ⟨[DsO109, DsO110], 5112⟩⟩
theorem DsT77 : Ent.check Tryz.prog known [(63, [DsE76])] 990 DsE77 = true := by kernel_rfl
theorem DsK77 {W : World} (hW : LibW W) : DsE77.Ok Tryz.prog (KG W) := Ent.ok_of mixed (known_ok hW) (Tab.ok_cons (f := 63) (Ent.ok_cons (DsK76 hW) Ent.ok_nil) Tab.ok_nil) DsT77
def DsE78 : Ent := ⟨30, (.cons (.str 226 DsS75) (.cons (.str 1 10) .nil)), ⟨[], 5126⟩, (.tup (avs [(.str 26 DsS76), (.str 199 DsS77), (.bool true)])), ⟨[], 5138⟩⟩
theorem DsT78 : Ent.check Tryz.prog known [] 990 DsE78 = true := by kernel_rfl
theorem DsK78 {W : World} (hW : LibW W) : DsE78.Ok Tryz.prog (KG W) := Ent.ok_of mixed (known_ok hW) Tab.ok_nil DsT78
def DsE79 : Ent := ⟨63, (.cons (.str 2 25964) .nil), ⟨[], 5178⟩, (nu 29), ⟨[], 5207⟩⟩
theorem DsT79 : Ent.check Tryz.prog known [] 990 DsE79 = true := by kernel_rfl
theorem DsK79 {W : World} (hW : LibW W) : DsE79.Ok Tryz.prog (KG W) := Ent.ok_of mixed (known_ok hW) Tab.ok_nil DsT79
def DsE80 : Ent := ⟨32, (.cons (.ptr 5175 0) .nil), ⟨[DsO111], 5176⟩, (.tup (avs [(.agg (avs [(nu 29), (nu 0), (.sl 5235 0 2 3 false)])), (.bool true)])), ⟨[DsO112, DsO113], 5247⟩⟩
theorem DsT80 : Ent.check Tryz.prog known [(63, [DsE79])] 990 DsE80 = true := by kernel_rfl
theorem DsK80 {W : World} (hW : LibW W) : DsE80.Ok Tryz.prog (KG W) := Ent.ok_of mixed (known_ok hW) (Tab.ok_cons (f := 63) (Ent.ok_cons (DsK79 hW) Ent.ok_nil) Tab.ok_nil) DsT80
def DsE81 : Ent := ⟨30, (.cons (.str 199 DsS77) (.cons (.str 1 10) .nil)), ⟨[], 5261⟩, (.tup (avs [(.str 28 DsS78), (.str 170 DsS79), (.bool true)])), ⟨[], 5273⟩⟩
theorem DsT81 : Ent.check Tryz.prog known [] 990 DsE81 = true := by kernel_rfl
theorem DsK81 {W : World} (hW : LibW W) : DsE81.Ok Tryz.prog (KG W) := Ent.ok_of mixed (known_ok hW) Tab.ok_nil DsT81
def DsE82 : Ent := ⟨63, (.cons (.str 3 7693676) .nil), ⟨[], 5313⟩, (nu 30), ⟨[], 5343⟩⟩
theorem DsT82 : Ent.check Tryz.prog known [] 990 DsE82 = true := by kernel_rfl
theorem DsK82 {W : World} (hW : LibW W) : DsE82.Ok Tryz.prog (KG W) := Ent.ok_of mixed (known_ok hW) Tab.ok_nil DsT82
def DsE83 : Ent := ⟨32, (.cons (.ptr 5310 0) .nil), ⟨[DsO114], 5311⟩, (.tup (avs [(.agg (avs [(nu 30), (nu 0), (.sl 5371 0 2 3 false)])), (.bool true)])), ⟨[DsO115, DsO116], 5383⟩⟩
theorem DsT83 : Ent.check Tryz.prog known [(63, [DsE82])] 990 DsE83 = true := by kernel_rfl
theorem DsK83 {W : World} (hW : LibW W) : DsE83.Ok Tryz.prog (KG W) := Ent.ok_of mixed (known_ok hW) (Tab.ok_cons (f := 63) (Ent.ok_cons (DsK82 hW) Ent.ok_nil) Tab.ok_nil) DsT83
def DsE84 : Ent := ⟨30, (.cons (.str 170 DsS79) (.cons (.str 1 10) .nil)), ⟨[], 5397⟩, (.tup (avs [(.str 25 DsS80), (.str 144 DsS81), (.bool true)])), ⟨[], 5409⟩⟩
theorem DsT84 : Ent.check Tryz.prog known [] 990 DsE84 = true := by kernel_rfl
theorem DsK84 {W : World} (hW : LibW W) : DsE84.Ok Tryz.prog (KG W) := Ent.ok_of mixed (known_ok hW) Tab.ok_nil DsT84
def DsE85 : Ent := ⟨63, (.cons (.str 4 947157093) .nil), ⟨[], 5449⟩, (nu 31), ⟨[], 5480⟩⟩
theorem DsT85 : Ent.check Tryz.prog known [] 990 DsE85 = true := by kernel_rfl
theorem DsK85 {W : World} (hW : LibW W) : DsE85.Ok Tryz.prog (KG W) := Ent.ok_of mixed (known_ok hW) Tab.ok_nil DsT85
def DsE86 : Ent := ⟨32, (.cons (.ptr 5446 0) .nil), ⟨[DsO117], 5447⟩, (.tup (avs [(.agg (avs [(nu 31), (nu 0), (.sl 5494 0 1 3 false)])), (.bool true)])), ⟨[DsO118, DsO119], 5506⟩⟩
theorem DsT86 : Ent.check Tryz.prog known [(63, [DsE85])] 990 DsE86 = true := by kernel_rfl
theorem DsK86 {W : World} (hW : LibW W) : DsE86.Ok Tryz.prog (KG W) := Ent.ok_of mixed (known_ok hW) (Tab.ok_cons (f := 63) (Ent.ok_cons (DsK85 hW) Ent.ok_nil) Tab.ok_nil) DsT86
def DsE87 : Ent := ⟨30, (.cons (.str 144 DsS81) (.cons (.str 1 10) .nil)), ⟨[], 5520⟩, (.tup (avs [(.str 27 DsS82), (.str 116 DsS83), (.bool true)])), ⟨[], 5532⟩⟩
theorem DsT87 : Ent.check Tryz.prog known [] 990 DsE87 = true := by kernel_rfl
theorem DsK87 {W : World} (hW : LibW W) : DsE87.Ok Tryz.prog (KG W) := Ent.ok_of mixed (known_ok hW) Tab.ok_nil DsT87
def DsE88 : Ent := ⟨63, (.cons (.str 5 232757950565) .nil), ⟨[], 5572⟩, (nu 32), ⟨[], 5604⟩⟩
theorem DsT88 : Ent.check Tryz.prog known [] 990 DsE88 = true := by kernel_rfl
theorem DsK88 {W : World} (hW : LibW W) : DsE88.Ok Tryz.prog (KG W) := Ent.ok_of mixed (known_ok hW) Tab.ok_nil DsT88
def DsE89 : Ent := ⟨32, (.cons (.ptr 5569 0) .nil), ⟨[DsO120], 5570⟩, (.tup (avs [(.agg (avs [(nu 32), (nu 0), (.sl 5618 0 1 3 false)])), (.bool true)])), ⟨[DsO121, DsO122], 5630⟩⟩
theorem DsT89 : Ent.check Tryz.prog known [(63, [DsE88])] 990 DsE89 = true := by kernel_rfl
theorem DsK89 {W : World} (hW : LibW W) : DsE89.Ok Tryz.prog (KG W) := Ent.ok_of mixed (known_ok hW) (Tab.ok_cons (f := 63) (Ent.ok_cons (DsK88 hW) Ent.ok_nil) Tab.ok_nil) DsT89
def DsE90 : Ent := ⟨30, (.cons (.str 116 DsS83) (.cons (.str 1 10) .nil)), ⟨[], 5644⟩, (.tup (avs [(.str 27 DsS84), (.str 88 DsS85), (.bool true)])), ⟨[], 5656⟩⟩
theorem DsT90 : Ent.check Tryz.prog known [] 990 DsE90 = true := by kernel_rfl
theorem DsK90 {W : World} (hW : LibW W) : DsE90.Ok Tryz.prog (KG W) := Ent.ok_of mixed (known_ok hW) Tab.ok_nil DsT90
def DsE91 : Ent := ⟨63, (.cons (.str 5 215611635813) .nil), ⟨[], 5696⟩, (nu 33), ⟨[], 5729⟩⟩
theorem DsT91 : Ent.check Tryz.prog known [] 990 DsE91 = true := by kernel_rfl
theorem DsK91 {W : World} (hW : LibW W) : DsE91.Ok Tryz.prog (KG W) := Ent.ok_of mixed (known_ok hW) Tab.ok_nil DsT91
def DsE92 : Ent := ⟨32, (.cons (.ptr 5693 0) .nil), ⟨[DsO123], 5694⟩, (.tup (avs [(.agg (avs [(nu 33), (nu 0), (.sl 5743 0 1 3 false)])), (.bool true)])), ⟨[DsO124, DsO125], 5755⟩⟩
theorem DsT92 : Ent.check Tryz.prog known [(63, [DsE91])] 990 DsE92 = true := by kernel_rfl
theorem DsK92 {W : World} (hW : LibW W) : DsE92.Ok Tryz.prog (KG W) := Ent.ok_of mixed (known_ok hW) (Tab.ok_cons (f := 63) (Ent.ok_cons (DsK91 hW) Ent.ok_nil) Tab.ok_nil) DsT92
def DsE93 : Ent := ⟨30, (.cons (.str 88 DsS85) (.cons (.str 1 10) .nil)), ⟨[], 5769⟩, (.tup (avs [(.str 27 DsS86), (.str 60 DsS87), (.bool true)])), ⟨[], 5781⟩⟩
theorem DsT93 : Ent.check Tryz.prog known [] 990 DsE93 = true := by kernel_rfl
theorem DsK93 {W : World} (hW : LibW W) : DsE93.Ok Tryz.prog (KG W) := Ent.ok_of mixed (known_ok hW) Tab.ok_nil DsT93
def DsE94 : Ent := ⟨63, (.cons (.str 5 242472215930) .nil), ⟨[], 5821⟩, (nu 34), ⟨[], 5855⟩⟩
theorem DsT94 : Ent.check Tryz.prog known [] 990 DsE94 = true := by kernel_rfl
theorem DsK94 {W : World} (hW : LibW W) : DsE94.Ok Tryz.prog (KG W) := Ent.ok_of mixed (known_ok hW) Tab.ok_nil DsT94
def DsE95 : Ent := ⟨32, (.cons (.ptr 5818 0) .nil), ⟨[DsO126], 5819⟩, (.tup (avs [(.agg (avs [(nu 34), (nu 0), (.sl 5869 0 1 3 false)])), (.bool true)])), ⟨[DsO127, DsO128], 5881⟩⟩
theorem DsT95 : Ent.check Tryz.prog known [(63, [DsE94])] 990 DsE95 = true := by kernel_rfl
theorem DsK95 {W : World} (hW : LibW W) : DsE95.Ok Tryz.prog (KG W) := Ent.ok_of mixed (known_ok hW) (Tab.ok_cons (f := 63) (Ent.ok_cons (DsK94 hW) Ent.ok_nil) Tab.ok_nil) DsT95
def DsE96 : Ent := ⟨30, (.cons (.str 60 DsS87) (.cons (.str 1 10) .nil)), ⟨[], 5895⟩, (.tup (avs [(.str 29 DsS88), (.str 30 DsS89), (.bool true)])), ⟨[], 5907⟩⟩
theorem DsT96 : Ent.check Tryz.prog known [] 990 DsE96 = true := by kernel_rfl
theorem DsK96 {W : World} (hW : LibW W) : DsE96.Ok Tryz.prog (KG W) := Ent.ok_of mixed (known_ok hW) Tab.ok_nil DsT96
def DsE97 : Ent := ⟨63, (.cons (.str 6 59586035344762) .nil), ⟨[], 5947⟩, (nu 35), ⟨[], 5982⟩⟩
theorem DsT97 : Ent.check Tryz.prog known [] 990 DsE97 = true := by kernel_rfl
theorem DsK97 {W : World} (hW : LibW W) : DsE97.Ok Tryz.prog (KG W) := Ent.ok_of mixed (known_ok hW) Tab.ok_nil DsT97
def DsE98 : Ent := ⟨32, (.cons (.ptr 5944 0) .nil), ⟨[DsO129], 5945⟩, (.tup (avs [(.agg (avs [(nu 35), (nu 0), (.sl 5996 0 1 3 false)])), (.bool true)])), ⟨[DsO130, DsO131], 6008⟩⟩
theorem DsT98 : Ent.check Tryz.prog known [(63, [DsE97])] 990 DsE98 = true := by kernel_rfl
theorem DsK98 {W : World} (hW : LibW W) : DsE98.Ok Tryz.prog (KG W) := Ent.ok_of mixed (known_ok hW) (Tab.ok_cons (f := 63) (Ent.ok_cons (DsK97 hW) Ent.ok_nil) Tab.ok_nil) DsT98
def DsE99 : Ent := ⟨30, (.cons (.str 30 DsS89) (.cons (.str 1 10) .nil)), ⟨[], 6022⟩, (.tup (avs [(.str 29 DsS90), (.str 0 0), (.bool true)])), ⟨[], 6034⟩⟩
theorem DsT99 : Ent.check Tryz.prog known [] 990 DsE99 = true := by kernel_rfl
theorem DsK99 {W : World} (hW : LibW W) : DsE99.Ok Tryz.prog (KG W) := Ent.ok_of mixed (known_ok hW) Tab.ok_nil DsT99
def DsE100 : Ent := ⟨63, (.cons (.str 6 55196578768250) .nil), ⟨[], 6074⟩, (nu 36), ⟨[], 6110⟩⟩
theorem DsT100 : Ent.check Tryz.prog known [] 990 DsE100 = true := by kernel_rfl
theorem DsK100 {W : World} (hW : LibW W) : DsE100.Ok Tryz.prog (KG W) := Ent.ok_of mixed (known_ok hW) Tab.ok_nil DsT100
def DsE101 : Ent := ⟨32, (.cons (.ptr 6071 0) .nil), ⟨[DsO132], 6072⟩, (.tup (avs [(.agg (avs [(nu 36), (nu 0), (.sl 6124 0 1 3 false)])), (.bool true)])), ⟨[DsO133, DsO134], 6136⟩⟩
theorem DsT101 : Ent.check Tryz.prog known [(63, [DsE100])] 990 DsE101 = true := by kernel_rfl
theorem DsK101 {W : World} (hW : LibW W) : DsE101.Ok Tryz.prog (KG W) := Ent.ok_of mixed (known_ok hW) (Tab.ok_cons (f := 63) (Ent.ok_cons (DsK100 hW) Ent.ok_nil) Tab.ok_nil) DsT101
def DsE102 : Ent := ⟨34, (.cons (.sl 6149 0 53 6 false) .nil), ⟨[DsO2, DsO5, DsO8, DsO11, DsO14, DsO17, DsO20, DsO23, DsO26, DsO29, DsO32, DsO35, DsO38, DsO41, DsO44, DsO47, DsO50, DsO53, DsO56, DsO59, DsO62, DsO65, DsO68, DsO71, DsO74, DsO77, DsO80, DsO83, DsO86, DsO89, DsO92, DsO95, DsO98, DsO101, DsO104, DsO107, DsO110, DsO113, DsO116, DsO119, DsO122, DsO125, DsO128, DsO131, DsO134, DsO135], 6150⟩, (.bool true), ⟨[DsO2, DsO5, DsO8, DsO11, DsO14, DsO17, DsO20, DsO23, DsO26, DsO29, DsO32, DsO35, DsO38, DsO41, DsO44, DsO47, DsO50, DsO53, DsO56, DsO59, DsO62, DsO65, DsO68, DsO71, DsO74, DsO77, DsO80, DsO83, DsO86, DsO89, DsO92, DsO95, DsO98, DsO101, DsO104, DsO107, DsO110, DsO113, DsO116, DsO119, DsO122, DsO125, DsO128, DsO131, DsO134, DsO135], 6880⟩⟩
theorem DsT102 : Ent.check Tryz.prog known [] 990 DsE102 = true := by kernel_rfl
theorem DsK102 {W : World} (hW : LibW W) : DsE102.Ok Tryz.prog (KG W) := Ent.ok_of mixed (known_ok hW) Tab.ok_nil DsT102
def DsE103 : Ent := ⟨35, (.cons (.sl 6149 0 53 6 false) .nil), ⟨[DsO2, DsO5, DsO8, DsO11, DsO14, DsO17, DsO20, DsO23, DsO26, DsO29, DsO32, DsO35, DsO38, DsO41, DsO44, DsO47, DsO50, DsO53, DsO56, DsO59, DsO62, DsO65, DsO68, DsO71, DsO74, DsO77, DsO80, DsO83, DsO86, DsO89, DsO92, DsO95, DsO98, DsO101, DsO104, DsO107, DsO110, DsO113, DsO116, DsO119, DsO122, DsO125, DsO128, DsO131, DsO134, DsO135], 6880⟩, (.str 1472 DsS91), ⟨[DsO2, DsO5, DsO8, DsO11, DsO14, DsO17, DsO20, DsO23, DsO26, DsO29, DsO32, DsO35, DsO38, DsO41, DsO44, DsO47, DsO50, DsO53, DsO56, DsO59, DsO62, DsO65, DsO68, DsO71, DsO74, DsO77, DsO80, DsO83, DsO86, DsO89, DsO92, DsO95, DsO98, DsO101, DsO104, DsO107, DsO110, DsO113, DsO116, DsO119, DsO122, DsO125, DsO128, DsO131, DsO134, DsO135], 9585⟩⟩
theorem DsT103 : Ent.check Tryz.prog known [] 990 DsE103 = true := by kernel_rfl
theorem DsK103 {W : World} (hW : LibW W) : DsE103.Ok Tryz.prog (KG W) := Ent.ok_of mixed (known_ok hW) Tab.ok_nil DsT103
end Go.Proofs.YtpepepkfjimoeaaGreatDoor

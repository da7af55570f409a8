/- Calls that were proved one by one: what the evaluator says. -/
import Derived.Test.YtpepepkfjimoeaaGreatDoorPbO
import Derived.Test.YtpepepkfjimoeaaGreatDoorProg
import Derived.ProofKit
import Derived.Test.YtpepepkfjimoeaaGreatDoorVy
namespace Go.Proofs.YtpepepkfjimoeaaGreatDoor
open Go.Proofs.YtpepepkfjimoeaaGreatDoor.Ev
set_option maxRecDepth 100000

def PbE111 : Ent := ⟨15, (.cons (.str 18 PbS12) .nil), ⟨[], 30317⟩, (.tup (avs [(.sl 30412 0 13 4 false), (.agg (avs [(nu 0), (nu 0)]))])), ⟨[PbO169], 30413⟩⟩
theorem PbT111 : Ent.check Tryz.prog known [] 990 PbE111 = true := by kernel_rfl
theorem PbK111 {W : World} (hW : LibW W) : PbE111.Ok Tryz.prog (KG W) := Ent.ok_of mixed (known_ok hW) Tab.ok_nil PbT111
def PbE112 : Ent := ⟨161, (.cons (.ptr 30414 0) (.cons (nu 3) (.cons (nu 6) .nil))), ⟨[PbO169, PbO170], 30809⟩, (.agg (avs [(nu 2), (nu 0), (nu 0), (nu 0), (.str 1 97), (nu 0), .nils, (nu 11)])), ⟨[PbO169, PbO171], 31087⟩⟩
theorem PbT112 : Ent.check Tryz.prog known [] 990 PbE112 = true := by kernel_rfl
theorem PbK112 {W : World} (hW : LibW W) : PbE112.Ok Tryz.prog (KG W) := Ent.ok_of mixed (known_ok hW) Tab.ok_nil PbT112
def PbE113 : Ent := ⟨161, (.cons (.ptr 30414 0) (.cons (nu 3) (.cons (nu 1) .nil))), ⟨[PbO169, PbO170], 30804⟩, (.agg (avs [(nu 2), (nu 0), (nu 0), (nu 0), (.str 1 97), (nu 0), .nils, (nu 11)])), ⟨[PbO169, PbO171], 31247⟩⟩
theorem PbT113 : Ent.check Tryz.prog known [(161, [PbE112])] 990 PbE113 = true := by kernel_rfl
theorem PbK113 {W : World} (hW : LibW W) : PbE113.Ok Tryz.prog (KG W) := Ent.ok_of mixed (known_ok hW) (Tab.ok_cons (f := 161) (Ent.ok_cons (PbK112 hW) Ent.ok_nil) Tab.ok_nil) PbT113
def PbE114 : Ent := ⟨161, (.cons (.ptr 30414 0) (.cons (nu 4) (.cons (nu 6) .nil))), ⟨[PbO169, PbO172], 31353⟩, (.agg (avs [(nu 2), (nu 0), (nu 0), (nu 0), (.str 1 98), (nu 0), .nils, (nu 13)])), ⟨[PbO169, PbO173], 31631⟩⟩
theorem PbT114 : Ent.check Tryz.prog known [] 990 PbE114 = true := by kernel_rfl
theorem PbK114 {W : World} (hW : LibW W) : PbE114.Ok Tryz.prog (KG W) := Ent.ok_of mixed (known_ok hW) Tab.ok_nil PbT114
def PbE115 : Ent := ⟨161, (.cons (.ptr 30414 0) (.cons (nu 4) (.cons (nu 1) .nil))), ⟨[PbO169, PbO172], 31348⟩, (.agg (avs [(nu 2), (nu 0), (nu 0), (nu 0), (.str 1 98), (nu 0), .nils, (nu 13)])), ⟨[PbO169, PbO173], 31791⟩⟩
theorem PbT115 : Ent.check Tryz.prog known [(161, [PbE114])] 990 PbE115 = true := by kernel_rfl
theorem PbK115 {W : World} (hW : LibW W) : PbE115.Ok Tryz.prog (KG W) := Ent.ok_of mixed (known_ok hW) (Tab.ok_cons (f := 161) (Ent.ok_cons (PbK114 hW) Ent.ok_nil) Tab.ok_nil) PbT115
def PbE116 : Ent := ⟨161, (.cons (.ptr 30414 0) (.cons (nu 5) (.cons (nu 6) .nil))), ⟨[PbO169, PbO174], 31897⟩, (.agg (avs [(nu 2), (nu 0), (nu 0), (nu 0), (.str 1 99), (nu 0), .nils, (nu 15)])), ⟨[PbO169, PbO175], 32175⟩⟩
theorem PbT116 : Ent.check Tryz.prog known [] 990 PbE116 = true := by kernel_rfl
theorem PbK116 {W : World} (hW : LibW W) : PbE116.Ok Tryz.prog (KG W) := Ent.ok_of mixed (known_ok hW) Tab.ok_nil PbT116
def PbE117 : Ent := ⟨161, (.cons (.ptr 30414 0) (.cons (nu 5) (.cons (nu 1) .nil))), ⟨[PbO169, PbO174], 31892⟩, (.agg (avs [(nu 2), (nu 0), (nu 0), (nu 0), (.str 1 99), (nu 0), .nils, (nu 15)])), ⟨[PbO169, PbO175], 32335⟩⟩
theorem PbT117 : Ent.check Tryz.prog known [(161, [PbE116])] 990 PbE117 = true := by kernel_rfl
theorem PbK117 {W : World} (hW : LibW W) : PbE117.Ok Tryz.prog (KG W) := Ent.ok_of mixed (known_ok hW) (Tab.ok_cons (f := 161) (Ent.ok_cons (PbK116 hW) Ent.ok_nil) Tab.ok_nil) PbT117
def PbE118 : Ent := ⟨119, (.cons (.ptr 30414 0) (.cons (nu 3) .nil)), ⟨[PbO169, PbO170], 30801⟩, (.agg (avs [(nu 34), (nu 0), (nu 0), (nu 0), (.str 0 0), (nu 0), (.sl 31342 0 2 8 true), (nu 12)])), ⟨[PbO169, PbO175, PbO176, PbO177], 32409⟩⟩
theorem PbT118 : Ent.check Tryz.prog known [(161, [PbE113, PbE115, PbE117])] 990 PbE118 = true := by kernel_rfl
theorem PbK118 {W : World} (hW : LibW W) : PbE118.Ok Tryz.prog (KG W) := Ent.ok_of mixed (known_ok hW) (Tab.ok_cons (f := 161) (Ent.ok_cons (PbK113 hW) (Ent.ok_cons (PbK115 hW) (Ent.ok_cons (PbK117 hW) Ent.ok_nil))) Tab.ok_nil) PbT118
def PbE119 : Ent := ⟨5, (.cons (.str 18 PbS12) .nil), ⟨[], 30315⟩, (.tup (avs [(.agg (avs [.nils, (.sl 32490 0 1 8 false)])), (.agg (avs [(nu 0), (nu 0)]))])), ⟨[PbO176, PbO177, PbO178, PbO179, PbO180], 32503⟩⟩
theorem PbT119 : Ent.check Tryz.prog known [(15, [PbE111]), (119, [PbE118])] 990 PbE119 = true := by kernel_rfl
theorem PbK119 {W : World} (hW : LibW W) : PbE119.Ok Tryz.prog (KG W) := Ent.ok_of mixed (known_ok hW) (Tab.ok_cons (f := 15) (Ent.ok_cons (PbK111 hW) Ent.ok_nil) (Tab.ok_cons (f := 119) (Ent.ok_cons (PbK118 hW) Ent.ok_nil) Tab.ok_nil)) PbT119
def PbE120 : Ent := ⟨15, (.cons (.str 20 PbS13) .nil), ⟨[], 32507⟩, (.tup (avs [(.sl 32610 0 15 4 false), (.agg (avs [(nu 0), (nu 0)]))])), ⟨[PbO181], 32611⟩⟩
theorem PbT120 : Ent.check Tryz.prog known [] 990 PbE120 = true := by kernel_rfl
theorem PbK120 {W : World} (hW : LibW W) : PbE120.Ok Tryz.prog (KG W) := Ent.ok_of mixed (known_ok hW) Tab.ok_nil PbT120
def PbE121 : Ent := ⟨161, (.cons (.ptr 32612 0) (.cons (nu 3) (.cons (nu 6) .nil))), ⟨[PbO181, PbO182], 33007⟩, (.agg (avs [(nu 2), (nu 0), (nu 0), (nu 0), (.str 1 97), (nu 0), .nils, (nu 11)])), ⟨[PbO181, PbO183], 33285⟩⟩
theorem PbT121 : Ent.check Tryz.prog known [] 990 PbE121 = true := by kernel_rfl
theorem PbK121 {W : World} (hW : LibW W) : PbE121.Ok Tryz.prog (KG W) := Ent.ok_of mixed (known_ok hW) Tab.ok_nil PbT121
def PbE122 : Ent := ⟨161, (.cons (.ptr 32612 0) (.cons (nu 3) (.cons (nu 1) .nil))), ⟨[PbO181, PbO182], 33002⟩, (.agg (avs [(nu 2), (nu 0), (nu 0), (nu 0), (.str 1 97), (nu 0), .nils, (nu 11)])), ⟨[PbO181, PbO183], 33445⟩⟩
theorem PbT122 : Ent.check Tryz.prog known [(161, [PbE121])] 990 PbE122 = true := by kernel_rfl
theorem PbK122 {W : World} (hW : LibW W) : PbE122.Ok Tryz.prog (KG W) := Ent.ok_of mixed (known_ok hW) (Tab.ok_cons (f := 161) (Ent.ok_cons (PbK121 hW) Ent.ok_nil) Tab.ok_nil) PbT122
def PbE123 : Ent := ⟨161, (.cons (.ptr 32612 0) (.cons (nu 5) (.cons (nu 6) .nil))), ⟨[PbO181, PbO184], 33670⟩, (.agg (avs [(nu 2), (nu 0), (nu 0), (nu 0), (.str 1 98), (nu 0), .nils, (nu 14)])), ⟨[PbO181, PbO185], 33948⟩⟩
theorem PbT123 : Ent.check Tryz.prog known [] 990 PbE123 = true := by kernel_rfl
theorem PbK123 {W : World} (hW : LibW W) : PbE123.Ok Tryz.prog (KG W) := Ent.ok_of mixed (known_ok hW) Tab.ok_nil PbT123
def PbE124 : Ent := ⟨161, (.cons (.ptr 32612 0) (.cons (nu 5) (.cons (nu 1) .nil))), ⟨[PbO181, PbO184], 33665⟩, (.agg (avs [(nu 2), (nu 0), (nu 0), (nu 0), (.str 1 98), (nu 0), .nils, (nu 14)])), ⟨[PbO181, PbO185], 34108⟩⟩
theorem PbT124 : Ent.check Tryz.prog known [(161, [PbE123])] 990 PbE124 = true := by kernel_rfl
theorem PbK124 {W : World} (hW : LibW W) : PbE124.Ok Tryz.prog (KG W) := Ent.ok_of mixed (known_ok hW) (Tab.ok_cons (f := 161) (Ent.ok_cons (PbK123 hW) Ent.ok_nil) Tab.ok_nil) PbT124
def PbE125 : Ent := ⟨161, (.cons (.ptr 32612 0) (.cons (nu 6) (.cons (nu 6) .nil))), ⟨[PbO181, PbO186], 34214⟩, (.agg (avs [(nu 2), (nu 0), (nu 0), (nu 0), (.str 1 99), (nu 0), .nils, (nu 16)])), ⟨[PbO181, PbO187], 34492⟩⟩
theorem PbT125 : Ent.check Tryz.prog known [] 990 PbE125 = true := by kernel_rfl
theorem PbK125 {W : World} (hW : LibW W) : PbE125.Ok Tryz.prog (KG W) := Ent.ok_of mixed (known_ok hW) Tab.ok_nil PbT125
def PbE126 : Ent := ⟨161, (.cons (.ptr 32612 0) (.cons (nu 6) (.cons (nu 1) .nil))), ⟨[PbO181, PbO186], 34209⟩, (.agg (avs [(nu 2), (nu 0), (nu 0), (nu 0), (.str 1 99), (nu 0), .nils, (nu 16)])), ⟨[PbO181, PbO187], 34652⟩⟩
theorem PbT126 : Ent.check Tryz.prog known [(161, [PbE125])] 990 PbE126 = true := by kernel_rfl
theorem PbK126 {W : World} (hW : LibW W) : PbE126.Ok Tryz.prog (KG W) := Ent.ok_of mixed (known_ok hW) (Tab.ok_cons (f := 161) (Ent.ok_cons (PbK125 hW) Ent.ok_nil) Tab.ok_nil) PbT126
def PbE127 : Ent := ⟨188, (.cons (.ptr 32612 0) (.cons (nu 4) .nil)), ⟨[PbO181, PbO188], 33606⟩, (.agg (avs [(nu 34), (nu 0), (nu 0), (nu 0), (.str 0 0), (nu 0), (.sl 34203 0 2 8 true), (nu 15)])), ⟨[PbO181, PbO189, PbO190], 34808⟩⟩
theorem PbT127 : Ent.check Tryz.prog known [(161, [PbE124, PbE126])] 990 PbE127 = true := by kernel_rfl
theorem PbK127 {W : World} (hW : LibW W) : PbE127.Ok Tryz.prog (KG W) := Ent.ok_of mixed (known_ok hW) (Tab.ok_cons (f := 161) (Ent.ok_cons (PbK124 hW) (Ent.ok_cons (PbK126 hW) Ent.ok_nil)) Tab.ok_nil) PbT127
def PbE128 : Ent := ⟨161, (.cons (.ptr 32612 0) (.cons (nu 4) (.cons (nu 6) .nil))), ⟨[PbO181, PbO188], 33551⟩, (.agg (avs [(nu 34), (nu 0), (nu 0), (nu 0), (.str 0 0), (nu 0), (.sl 34203 0 2 8 true), (nu 15)])), ⟨[PbO181, PbO189, PbO190], 34936⟩⟩
theorem PbT128 : Ent.check Tryz.prog known [(188, [PbE127])] 990 PbE128 = true := by kernel_rfl
theorem PbK128 {W : World} (hW : LibW W) : PbE128.Ok Tryz.prog (KG W) := Ent.ok_of mixed (known_ok hW) (Tab.ok_cons (f := 188) (Ent.ok_cons (PbK127 hW) Ent.ok_nil) Tab.ok_nil) PbT128
def PbE129 : Ent := ⟨161, (.cons (.ptr 32612 0) (.cons (nu 4) (.cons (nu 1) .nil))), ⟨[PbO181, PbO188], 33546⟩, (.agg (avs [(nu 34), (nu 0), (nu 0), (nu 0), (.str 0 0), (nu 0), (.sl 34203 0 2 8 true), (nu 15)])), ⟨[PbO181, PbO189, PbO190], 35096⟩⟩
theorem PbT129 : Ent.check Tryz.prog known [(161, [PbE128])] 990 PbE129 = true := by kernel_rfl
theorem PbK129 {W : World} (hW : LibW W) : PbE129.Ok Tryz.prog (KG W) := Ent.ok_of mixed (known_ok hW) (Tab.ok_cons (f := 161) (Ent.ok_cons (PbK128 hW) Ent.ok_nil) Tab.ok_nil) PbT129
def PbE130 : Ent := ⟨94, (.cons (.ptr 32612 0) (.cons (nu 2) .nil)), ⟨[PbO181, PbO182], 32924⟩, (.agg (avs [(nu 1), (.sl 35170 0 1 8 true), .nils, (nu 0), (nu 0), (nu 0), (.str 0 0), (nu 0), (nu 11)])), ⟨[PbO181, PbO191, PbO192, PbO190, PbO193], 35198⟩⟩
theorem PbT130 : Ent.check Tryz.prog known [(161, [PbE122, PbE129])] 990 PbE130 = true := by kernel_rfl
theorem PbK130 {W : World} (hW : LibW W) : PbE130.Ok Tryz.prog (KG W) := Ent.ok_of mixed (known_ok hW) (Tab.ok_cons (f := 161) (Ent.ok_cons (PbK122 hW) (Ent.ok_cons (PbK129 hW) Ent.ok_nil)) Tab.ok_nil) PbT130
def PbE131 : Ent := ⟨15, (.cons (.str 17 PbS14) .nil), ⟨[], 35452⟩, (.tup (avs [(.sl 35534 0 12 4 false), (.agg (avs [(nu 0), (nu 0)]))])), ⟨[PbO194], 35535⟩⟩
theorem PbT131 : Ent.check Tryz.prog known [] 990 PbE131 = true := by kernel_rfl
theorem PbK131 {W : World} (hW : LibW W) : PbE131.Ok Tryz.prog (KG W) := Ent.ok_of mixed (known_ok hW) Tab.ok_nil PbT131
def PbE132 : Ent := ⟨161, (.cons (.ptr 35536 0) (.cons (nu 3) (.cons (nu 9) .nil))), ⟨[PbO194, PbO195], 35934⟩, (.agg (avs [(nu 15), (nu 0), (nu 0), (nu 0), (.str 0 0), (nu 0), (.sl 36184 0 2 8 true), (nu 13)])), ⟨[PbO194, PbO196, PbO197, PbO198], 36364⟩⟩
theorem PbT132 : Ent.check Tryz.prog known [] 990 PbE132 = true := by kernel_rfl
theorem PbK132 {W : World} (hW : LibW W) : PbE132.Ok Tryz.prog (KG W) := Ent.ok_of mixed (known_ok hW) Tab.ok_nil PbT132
def PbE133 : Ent := ⟨161, (.cons (.ptr 35536 0) (.cons (nu 3) (.cons (nu 4) .nil))), ⟨[PbO194, PbO195], 35929⟩, (.agg (avs [(nu 15), (nu 0), (nu 0), (nu 0), (.str 0 0), (nu 0), (.sl 36184 0 2 8 true), (nu 13)])), ⟨[PbO194, PbO196, PbO197, PbO198], 36524⟩⟩
theorem PbT133 : Ent.check Tryz.prog known [(161, [PbE132])] 990 PbE133 = true := by kernel_rfl
theorem PbK133 {W : World} (hW : LibW W) : PbE133.Ok Tryz.prog (KG W) := Ent.ok_of mixed (known_ok hW) (Tab.ok_cons (f := 161) (Ent.ok_cons (PbK132 hW) Ent.ok_nil) Tab.ok_nil) PbT133
def PbE134 : Ent := ⟨119, (.cons (.ptr 35536 0) (.cons (nu 3) .nil)), ⟨[PbO194, PbO195], 35923⟩, (.agg (avs [(nu 15), (nu 0), (nu 0), (nu 0), (.str 0 0), (nu 0), (.sl 36184 0 2 8 true), (nu 13)])), ⟨[PbO194, PbO196, PbO197, PbO198], 36694⟩⟩
theorem PbT134 : Ent.check Tryz.prog known [(161, [PbE133])] 990 PbE134 = true := by kernel_rfl
theorem PbK134 {W : World} (hW : LibW W) : PbE134.Ok Tryz.prog (KG W) := Ent.ok_of mixed (known_ok hW) (Tab.ok_cons (f := 161) (Ent.ok_cons (PbK133 hW) Ent.ok_nil) Tab.ok_nil) PbT134
def PbE135 : Ent := ⟨5, (.cons (.str 17 PbS14) .nil), ⟨[], 35450⟩, (.tup (avs [(.agg (avs [.nils, (.sl 36775 0 1 8 false)])), (.agg (avs [(nu 0), (nu 0)]))])), ⟨[PbO197, PbO198, PbO199, PbO200, PbO201], 36788⟩⟩
theorem PbT135 : Ent.check Tryz.prog known [(15, [PbE131]), (119, [PbE134])] 990 PbE135 = true := by kernel_rfl
theorem PbK135 {W : World} (hW : LibW W) : PbE135.Ok Tryz.prog (KG W) := Ent.ok_of mixed (known_ok hW) (Tab.ok_cons (f := 15) (Ent.ok_cons (PbK131 hW) Ent.ok_nil) (Tab.ok_cons (f := 119) (Ent.ok_cons (PbK134 hW) Ent.ok_nil) Tab.ok_nil)) PbT135
def PbE136 : Ent := ⟨15, (.cons (.str 19 PbS15) .nil), ⟨[], 36792⟩, (.tup (avs [(.sl 36882 0 14 4 false), (.agg (avs [(nu 0), (nu 0)]))])), ⟨[PbO202], 36883⟩⟩
theorem PbT136 : Ent.check Tryz.prog known [] 990 PbE136 = true := by kernel_rfl
theorem PbK136 {W : World} (hW : LibW W) : PbE136.Ok Tryz.prog (KG W) := Ent.ok_of mixed (known_ok hW) Tab.ok_nil PbT136
def PbE137 : Ent := ⟨161, (.cons (.ptr 36884 0) (.cons (nu 4) (.cons (nu 7) .nil))), ⟨[PbO202, PbO203], 37399⟩, (.agg (avs [(nu 6), (nu 0), (nu 0), (nu 0), (.str 0 0), (nu 0), (.sl 37595 0 1 8 true), (nu 12)])), ⟨[PbO202, PbO204, PbO205], 37692⟩⟩
theorem PbT137 : Ent.check Tryz.prog known [] 990 PbE137 = true := by kernel_rfl
theorem PbK137 {W : World} (hW : LibW W) : PbE137.Ok Tryz.prog (KG W) := Ent.ok_of mixed (known_ok hW) Tab.ok_nil PbT137
def PbE138 : Ent := ⟨161, (.cons (.ptr 36884 0) (.cons (nu 4) (.cons (nu 2) .nil))), ⟨[PbO202, PbO203], 37394⟩, (.agg (avs [(nu 6), (nu 0), (nu 0), (nu 0), (.str 0 0), (nu 0), (.sl 37595 0 1 8 true), (nu 12)])), ⟨[PbO202, PbO204, PbO205], 37852⟩⟩
theorem PbT138 : Ent.check Tryz.prog known [(161, [PbE137])] 990 PbE138 = true := by kernel_rfl
theorem PbK138 {W : World} (hW : LibW W) : PbE138.Ok Tryz.prog (KG W) := Ent.ok_of mixed (known_ok hW) (Tab.ok_cons (f := 161) (Ent.ok_cons (PbK137 hW) Ent.ok_nil) Tab.ok_nil) PbT138
def PbE139 : Ent := ⟨188, (.cons (.ptr 36884 0) (.cons (nu 3) .nil)), ⟨[PbO202, PbO206], 37334⟩, (.agg (avs [(nu 6), (nu 0), (nu 0), (nu 0), (.str 0 0), (nu 0), (.sl 37595 0 1 8 true), (nu 12)])), ⟨[PbO202, PbO207, PbO205], 38040⟩⟩
theorem PbT139 : Ent.check Tryz.prog known [(161, [PbE138])] 990 PbE139 = true := by kernel_rfl
theorem PbK139 {W : World} (hW : LibW W) : PbE139.Ok Tryz.prog (KG W) := Ent.ok_of mixed (known_ok hW) (Tab.ok_cons (f := 161) (Ent.ok_cons (PbK138 hW) Ent.ok_nil) Tab.ok_nil) PbT139
def PbE140 : Ent := ⟨161, (.cons (.ptr 36884 0) (.cons (nu 3) (.cons (nu 7) .nil))), ⟨[PbO202, PbO206], 37280⟩, (.agg (avs [(nu 15), (nu 0), (nu 0), (nu 0), (.str 0 0), (nu 0), (.sl 38095 0 2 8 true), (nu 15)])), ⟨[PbO202, PbO208, PbO205, PbO209], 38339⟩⟩
theorem PbT140 : Ent.check Tryz.prog known [(188, [PbE139])] 990 PbE140 = true := by kernel_rfl
theorem PbK140 {W : World} (hW : LibW W) : PbE140.Ok Tryz.prog (KG W) := Ent.ok_of mixed (known_ok hW) (Tab.ok_cons (f := 188) (Ent.ok_cons (PbK139 hW) Ent.ok_nil) Tab.ok_nil) PbT140
def PbE141 : Ent := ⟨161, (.cons (.ptr 36884 0) (.cons (nu 3) (.cons (nu 2) .nil))), ⟨[PbO202, PbO206], 37275⟩, (.agg (avs [(nu 15), (nu 0), (nu 0), (nu 0), (.str 0 0), (nu 0), (.sl 38095 0 2 8 true), (nu 15)])), ⟨[PbO202, PbO208, PbO205, PbO209], 38499⟩⟩
theorem PbT141 : Ent.check Tryz.prog known [(161, [PbE140])] 990 PbE141 = true := by kernel_rfl
theorem PbK141 {W : World} (hW : LibW W) : PbE141.Ok Tryz.prog (KG W) := Ent.ok_of mixed (known_ok hW) (Tab.ok_cons (f := 161) (Ent.ok_cons (PbK140 hW) Ent.ok_nil) Tab.ok_nil) PbT141
def PbE142 : Ent := ⟨50, (.cons (.ptr 36884 0) (.cons (nu 1) .nil)), ⟨[PbO202, PbO210], 37144⟩, (.sl 38634 0 1 9 false), ⟨[PbO202, PbO211, PbO205, PbO209, PbO212, PbO213], 38675⟩⟩
theorem PbT142 : Ent.check Tryz.prog known [(161, [PbE141])] 990 PbE142 = true := by kernel_rfl
theorem PbK142 {W : World} (hW : LibW W) : PbE142.Ok Tryz.prog (KG W) := Ent.ok_of mixed (known_ok hW) (Tab.ok_cons (f := 161) (Ent.ok_cons (PbK141 hW) Ent.ok_nil) Tab.ok_nil) PbT142
def PbE143 : Ent := ⟨15, (.cons (.str 18 PbS16) .nil), ⟨[], 38865⟩, (.tup (avs [(.sl 38951 0 13 4 false), (.agg (avs [(nu 0), (nu 0)]))])), ⟨[PbO214], 38952⟩⟩
theorem PbT143 : Ent.check Tryz.prog known [] 990 PbE143 = true := by kernel_rfl
theorem PbK143 {W : World} (hW : LibW W) : PbE143.Ok Tryz.prog (KG W) := Ent.ok_of mixed (known_ok hW) Tab.ok_nil PbT143
def PbE144 : Ent := ⟨161, (.cons (.ptr 38953 0) (.cons (nu 5) (.cons (nu 6) .nil))), ⟨[PbO214, PbO215], 39551⟩, (.agg (avs [(nu 2), (nu 0), (nu 0), (nu 0), (.str 1 98), (nu 0), .nils, (nu 14)])), ⟨[PbO214, PbO216], 39829⟩⟩
theorem PbT144 : Ent.check Tryz.prog known [] 990 PbE144 = true := by kernel_rfl
theorem PbK144 {W : World} (hW : LibW W) : PbE144.Ok Tryz.prog (KG W) := Ent.ok_of mixed (known_ok hW) Tab.ok_nil PbT144
def PbE145 : Ent := ⟨161, (.cons (.ptr 38953 0) (.cons (nu 5) (.cons (nu 1) .nil))), ⟨[PbO214, PbO215], 39546⟩, (.agg (avs [(nu 2), (nu 0), (nu 0), (nu 0), (.str 1 98), (nu 0), .nils, (nu 14)])), ⟨[PbO214, PbO216], 39989⟩⟩
theorem PbT145 : Ent.check Tryz.prog known [(161, [PbE144])] 990 PbE145 = true := by kernel_rfl
theorem PbK145 {W : World} (hW : LibW W) : PbE145.Ok Tryz.prog (KG W) := Ent.ok_of mixed (known_ok hW) (Tab.ok_cons (f := 161) (Ent.ok_cons (PbK144 hW) Ent.ok_nil) Tab.ok_nil) PbT145
def PbE146 : Ent := ⟨178, (.cons (.ptr 38953 0) (.cons (nu 3) .nil)), ⟨[PbO214, PbO217], 39353⟩, (.agg (avs [(nu 8), (nu 0), (nu 0), (nu 0), (.str 0 0), (nu 0), (.sl 40142 0 1 8 true), (nu 11)])), ⟨[PbO214, PbO218, PbO219, PbO220], 40143⟩⟩
theorem PbT146 : Ent.check Tryz.prog known [(161, [PbE145])] 990 PbE146 = true := by kernel_rfl
theorem PbK146 {W : World} (hW : LibW W) : PbE146.Ok Tryz.prog (KG W) := Ent.ok_of mixed (known_ok hW) (Tab.ok_cons (f := 161) (Ent.ok_cons (PbK145 hW) Ent.ok_nil) Tab.ok_nil) PbT146
def PbE147 : Ent := ⟨161, (.cons (.ptr 38953 0) (.cons (nu 3) (.cons (nu 5) .nil))), ⟨[PbO214, PbO217], 39347⟩, (.agg (avs [(nu 8), (nu 0), (nu 0), (nu 0), (.str 0 0), (nu 0), (.sl 40142 0 1 8 true), (nu 11)])), ⟨[PbO214, PbO218, PbO219, PbO220], 40303⟩⟩
theorem PbT147 : Ent.check Tryz.prog known [(178, [PbE146])] 990 PbE147 = true := by kernel_rfl
theorem PbK147 {W : World} (hW : LibW W) : PbE147.Ok Tryz.prog (KG W) := Ent.ok_of mixed (known_ok hW) (Tab.ok_cons (f := 178) (Ent.ok_cons (PbK146 hW) Ent.ok_nil) Tab.ok_nil) PbT147
def PbE148 : Ent := ⟨161, (.cons (.ptr 38953 0) (.cons (nu 3) (.cons (nu 0) .nil))), ⟨[PbO214, PbO217], 39342⟩, (.agg (avs [(nu 8), (nu 0), (nu 0), (nu 0), (.str 0 0), (nu 0), (.sl 40142 0 1 8 true), (nu 11)])), ⟨[PbO214, PbO218, PbO219, PbO220], 40463⟩⟩
theorem PbT148 : Ent.check Tryz.prog known [(161, [PbE147])] 990 PbE148 = true := by kernel_rfl
theorem PbK148 {W : World} (hW : LibW W) : PbE148.Ok Tryz.prog (KG W) := Ent.ok_of mixed (known_ok hW) (Tab.ok_cons (f := 161) (Ent.ok_cons (PbK147 hW) Ent.ok_nil) Tab.ok_nil) PbT148
def PbE149 : Ent := ⟨18, (.cons (.ptr 38953 0) (.cons (.ptr 38954 0) .nil)), ⟨[PbO214, PbO221, PbO222], 38967⟩, (.tup (avs [])), ⟨[PbO214, PbO223, PbO224, PbO219, PbO220, PbO225, PbO226, PbO227], 40587⟩⟩
theorem PbT149 : Ent.check Tryz.prog known [(161, [PbE148])] 990 PbE149 = true := by kernel_rfl
theorem PbK149 {W : World} (hW : LibW W) : PbE149.Ok Tryz.prog (KG W) := Ent.ok_of mixed (known_ok hW) (Tab.ok_cons (f := 161) (Ent.ok_cons (PbK148 hW) Ent.ok_nil) Tab.ok_nil) PbT149
end Go.Proofs.YtpepepkfjimoeaaGreatDoor

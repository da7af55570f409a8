/- Calls that were proved one by one: what the evaluator says. -/
import Derived.Test.YtpepepkfjimoeaaGreatTbO
import Derived.Test.YtpepepkfjimoeaaGreatProg
import Derived.ProofKit
import Derived.Test.YtpepepkfjimoeaaGreatVh
namespace Go.Proofs.YtpepepkfjimoeaaGreat
open Go.Proofs.YtpepepkfjimoeaaGreat.Ev
set_option maxRecDepth 100000

def TbE126 : Ent := ⟨17, (.cons (.agg (avs [.nils, (.sl 354893 0 1 8 false)])) .nil), ⟨[TbO798, TbO792, TbO795, TbO799, TbO800], 354896⟩, (.tup (avs [(.agg (avs [.nils, (.sl 354911 0 1 8 false)])), (.agg (avs [(nu 0), (nu 0)]))])), ⟨[TbO798, TbO792, TbO795, TbO799, TbO800, TbO801, TbO802, TbO803, TbO804, TbO805], 355252⟩⟩
theorem TbT126 : Ent.check Tryz.prog [] 990 TbE126 = true := by kernel_rfl
theorem TbK126 : TbE126.Ok Tryz.prog := Ent.ok_of mixed Tab.ok_nil TbT126
def TbE127 : Ent := ⟨22, (.cons (.str 32 56643635728428751599239361293279458310282137841129321773872947784330408914537) .nil), ⟨[], 355268⟩, (.tup (avs [(.sl 364406 0 13 4 false), (.agg (avs [(nu 0), (nu 0)]))])), ⟨[TbO806, TbO807, TbO808, TbO809, TbO810, TbO811, TbO812, TbO813, TbO814, TbO815, TbO816, TbO817, TbO818], 364407⟩⟩
theorem TbT127 : Ent.check Tryz.prog [] 990 TbE127 = true := by kernel_rfl
theorem TbK127 : TbE127.Ok Tryz.prog := Ent.ok_of mixed Tab.ok_nil TbT127
def TbE128 : Ent := ⟨171, (.cons (.ptr 364408 0) (.cons (nu 3) (.cons (nu 4) .nil))), ⟨[TbO806, TbO807, TbO808, TbO809, TbO810, TbO811, TbO812, TbO813, TbO814, TbO815, TbO816, TbO817, TbO818, TbO819], 364467⟩, (.agg (avs [(nu 10), (nu 0), (nu 0), (nu 0), (.str 0 0), (nu 0), .nils, (nu 18)])), ⟨[TbO806, TbO807, TbO808, TbO809, TbO810, TbO811, TbO812, TbO813, TbO814, TbO815, TbO816, TbO817, TbO818, TbO820], 364639⟩⟩
theorem TbT128 : Ent.check Tryz.prog [] 990 TbE128 = true := by kernel_rfl
theorem TbK128 : TbE128.Ok Tryz.prog := Ent.ok_of mixed Tab.ok_nil TbT128
def TbE129 : Ent := ⟨48, (.cons (.ptr 364408 0) (.cons (nu 1) .nil)), ⟨[TbO806, TbO807, TbO808, TbO809, TbO810, TbO811, TbO812, TbO813, TbO814, TbO815, TbO816, TbO817, TbO818, TbO821], 364438⟩, (.sl 364743 0 1 9 false), ⟨[TbO806, TbO807, TbO808, TbO809, TbO810, TbO811, TbO812, TbO813, TbO814, TbO815, TbO816, TbO817, TbO818, TbO822, TbO823, TbO824], 364748⟩⟩
theorem TbT129 : Ent.check Tryz.prog [(171, [TbE128])] 990 TbE129 = true := by kernel_rfl
theorem TbK129 : TbE129.Ok Tryz.prog := Ent.ok_of mixed (Tab.ok_cons (f := 171) (Ent.ok_cons TbK128 Ent.ok_nil) Tab.ok_nil) TbT129
def TbE130 : Ent := ⟨22, (.cons (.str 40 1044890622832248908406664303648730396995945740970676584948932880253238711146097547346537576951401) .nil), ⟨[], 364897⟩, (.tup (avs [(.sl 376766 0 18 4 false), (.agg (avs [(nu 0), (nu 0)]))])), ⟨[TbO825, TbO826, TbO827, TbO828, TbO829, TbO830, TbO831, TbO832, TbO833, TbO834, TbO835, TbO836, TbO837, TbO838, TbO839, TbO840, TbO841, TbO842], 376767⟩⟩
theorem TbT130 : Ent.check Tryz.prog [] 990 TbE130 = true := by kernel_rfl
theorem TbK130 : TbE130.Ok Tryz.prog := Ent.ok_of mixed Tab.ok_nil TbT130
def TbE131 : Ent := ⟨171, (.cons (.ptr 376768 0) (.cons (nu 3) (.cons (nu 5) .nil))), ⟨[TbO825, TbO826, TbO827, TbO828, TbO829, TbO830, TbO831, TbO832, TbO833, TbO834, TbO835, TbO836, TbO837, TbO838, TbO839, TbO840, TbO841, TbO842, TbO843], 376860⟩, (.agg (avs [(nu 10), (nu 0), (nu 1), (nu 0), (.str 0 0), (nu 0), .nils, (nu 25)])), ⟨[TbO825, TbO826, TbO827, TbO828, TbO829, TbO830, TbO831, TbO832, TbO833, TbO834, TbO835, TbO836, TbO837, TbO838, TbO839, TbO840, TbO841, TbO842, TbO844], 377011⟩⟩
theorem TbT131 : Ent.check Tryz.prog [] 990 TbE131 = true := by kernel_rfl
theorem TbK131 : TbE131.Ok Tryz.prog := Ent.ok_of mixed Tab.ok_nil TbT131
def TbE132 : Ent := ⟨87, (.cons (.ptr 376768 0) (.cons (nu 2) .nil)), ⟨[TbO825, TbO826, TbO827, TbO828, TbO829, TbO830, TbO831, TbO832, TbO833, TbO834, TbO835, TbO836, TbO837, TbO838, TbO839, TbO840, TbO841, TbO842, TbO845], 376834⟩, (.agg (avs [(nu 13), (.sl 377133 0 1 8 true), .nils, (nu 0), (nu 0), (nu 0), (.str 0 0), (nu 0), (nu 18)])), ⟨[TbO825, TbO826, TbO827, TbO828, TbO829, TbO830, TbO831, TbO832, TbO833, TbO834, TbO835, TbO836, TbO837, TbO838, TbO839, TbO840, TbO841, TbO842, TbO846, TbO847], 377137⟩⟩
theorem TbT132 : Ent.check Tryz.prog [(171, [TbE131])] 990 TbE132 = true := by kernel_rfl
theorem TbK132 : TbE132.Ok Tryz.prog := Ent.ok_of mixed (Tab.ok_cons (f := 171) (Ent.ok_cons TbK131 Ent.ok_nil) Tab.ok_nil) TbT132
def TbE133 : Ent := ⟨23, (.cons (.ptr 376768 0) .nil), ⟨[TbO825, TbO826, TbO827, TbO828, TbO829, TbO830, TbO831, TbO832, TbO833, TbO834, TbO835, TbO836, TbO837, TbO838, TbO839, TbO840, TbO841, TbO842, TbO848], 376769⟩, (.tup (avs [])), ⟨[TbO825, TbO826, TbO827, TbO828, TbO829, TbO830, TbO831, TbO832, TbO833, TbO834, TbO835, TbO836, TbO837, TbO838, TbO839, TbO840, TbO841, TbO842, TbO849, TbO850, TbO847, TbO851, TbO852], 377157⟩⟩
theorem TbT133 : Ent.check Tryz.prog [(87, [TbE132])] 990 TbE133 = true := by kernel_rfl
theorem TbK133 : TbE133.Ok Tryz.prog := Ent.ok_of mixed (Tab.ok_cons (f := 87) (Ent.ok_cons TbK132 Ent.ok_nil) Tab.ok_nil) TbT133
def TbE134 : Ent := ⟨22, (.cons (.str 21 183027214036441647010847385142690503854034871676521) .nil), ⟨[], 377455⟩, (.tup (avs [(.sl 384038 0 10 4 false), (.agg (avs [(nu 0), (nu 0)]))])), ⟨[TbO853, TbO854, TbO855, TbO856, TbO857, TbO858, TbO859, TbO860, TbO861, TbO862], 384039⟩⟩
theorem TbT134 : Ent.check Tryz.prog [] 990 TbE134 = true := by kernel_rfl
theorem TbK134 : TbE134.Ok Tryz.prog := Ent.ok_of mixed Tab.ok_nil TbT134
def TbE135 : Ent := ⟨171, (.cons (.ptr 384040 0) (.cons (nu 3) (.cons (nu 3) .nil))), ⟨[TbO853, TbO854, TbO855, TbO856, TbO857, TbO858, TbO859, TbO860, TbO861, TbO862, TbO863], 384098⟩, (.agg (avs [(nu 2), (nu 0), (nu 0), (nu 0), (.str 1 120), (nu 0), .nils, (nu 18)])), ⟨[TbO853, TbO854, TbO855, TbO856, TbO857, TbO858, TbO859, TbO860, TbO861, TbO862, TbO864], 384293⟩⟩
theorem TbT135 : Ent.check Tryz.prog [] 990 TbE135 = true := by kernel_rfl
theorem TbK135 : TbE135.Ok Tryz.prog := Ent.ok_of mixed Tab.ok_nil TbT135
def TbE136 : Ent := ⟨48, (.cons (.ptr 384040 0) (.cons (nu 1) .nil)), ⟨[TbO853, TbO854, TbO855, TbO856, TbO857, TbO858, TbO859, TbO860, TbO861, TbO862, TbO865], 384070⟩, (.sl 384374 0 1 9 false), ⟨[TbO853, TbO854, TbO855, TbO856, TbO857, TbO858, TbO859, TbO860, TbO861, TbO862, TbO866, TbO867, TbO868], 384379⟩⟩
theorem TbT136 : Ent.check Tryz.prog [(171, [TbE135])] 990 TbE136 = true := by kernel_rfl
theorem TbK136 : TbE136.Ok Tryz.prog := Ent.ok_of mixed (Tab.ok_cons (f := 171) (Ent.ok_cons TbK135 Ent.ok_nil) Tab.ok_nil) TbT136
end Go.Proofs.YtpepepkfjimoeaaGreat

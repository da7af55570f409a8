/- Calls that were proved one by one: what the evaluator says. -/
import Derived.Test.YtpepepkfjimoeaaGreatMcO
import Derived.Test.YtpepepkfjimoeaaGreatMcOx1
import Derived.Test.YtpepepkfjimoeaaGreatMcOx2
import Derived.Test.YtpepepkfjimoeaaGreatProg
import Derived.ProofKit
import Derived.Test.YtpepepkfjimoeaaGreatVh
namespace Go.Proofs.YtpepepkfjimoeaaGreat
open Go.Proofs.YtpepepkfjimoeaaGreat.Ev
set_option maxRecDepth 100000

def McE77 : Ent := ⟨22, (.cons (.str 60 1527109361018679212790470441062397378853480651555917170359261789280532245657368800928769996281769522915364923193687195326827970912918608402476649) .nil), ⟨[], 123400⟩, (.tup (avs [(.sl 155175 0 38 4 false), (.agg (avs [(nu 0), (nu 0)]))])), ⟨[McO792, McO793, McO794, McO795, McO796, McO797, McO798, McO799, McO800, McO801, McO802, McO803, McO804, McO805, McO806, McO807, McO808, McO809, McO810, McO811, McO812, McO813, McO814, McO815, McO816, McO817, McO818, McO819, McO820, McO821, McO822, McO823, McO824, McO825, McO826, McO827, McO828, McO829], 155176⟩⟩
theorem McT77 : Ent.check Tryz.prog [] 990 McE77 = true := by kernel_rfl
theorem McK77 : McE77.Ok Tryz.prog := Ent.ok_of mixed Tab.ok_nil McT77
def McE78 : Ent := ⟨229, (.cons (.ptr 155177 0) (.cons (nu 3) .nil)), ⟨[McO792, McO793, McO794, McO795, McO796, McO797, McO798, McO799, McO800, McO801, McO802, McO803, McO804, McO805, McO806, McO807, McO808, McO809, McO810, McO811, McO812, McO813, McO814, McO815, McO816, McO817, McO818, McO819, McO820, McO821, McO822, McO823, McO824, McO825, McO826, McO827, McO828, McO829, McO830], 155254⟩, (.agg (avs [(nu 35), (nu 0), (nu 0), (nu 0), (.str 3 7632240), (nu 0), (.sl 155555 0 1 8 false), (nu 11)])), ⟨[McO792, McO793, McO794, McO795, McO796, McO797, McO798, McO799, McO800, McO801, McO802, McO803, McO804, McO805, McO806, McO807, McO808, McO809, McO810, McO811, McO812, McO813, McO814, McO815, McO816, McO817, McO818, McO819, McO820, McO821, McO822, McO823, McO824, McO825, McO826, McO827, McO828, McO829, McO831, McO832], 155560⟩⟩
theorem McT78 : Ent.check Tryz.prog [] 990 McE78 = true := by kernel_rfl
theorem McK78 : McE78.Ok Tryz.prog := Ent.ok_of mixed Tab.ok_nil McT78
def McE79 : Ent := ⟨87, (.cons (.ptr 155177 0) (.cons (nu 2) .nil)), ⟨[McO792, McO793, McO794, McO795, McO796, McO797, McO798, McO799, McO800, McO801, McO802, McO803, McO804, McO805, McO806, McO807, McO808, McO809, McO810, McO811, McO812, McO813, McO814, McO815, McO816, McO817, McO818, McO819, McO820, McO821, McO822, McO823, McO824, McO825, McO826, McO827, McO828, McO829, McO830], 155211⟩, (.agg (avs [(nu 1), (.sl 155802 0 1 8 true), .nils, (nu 0), (nu 0), (nu 0), (.str 0 0), (nu 0), (nu 11)])), ⟨[McO792, McO793, McO794, McO795, McO796, McO797, McO798, McO799, McO800, McO801, McO802, McO803, McO804, McO805, McO806, McO807, McO808, McO809, McO810, McO811, McO812, McO813, McO814, McO815, McO816, McO817, McO818, McO819, McO820, McO821, McO822, McO823, McO824, McO825, McO826, McO827, McO828, McO829, McO833, McO832, McO834], 155806⟩⟩
theorem McT79 : Ent.check Tryz.prog [(229, [McE78])] 990 McE79 = true := by kernel_rfl
theorem McK79 : McE79.Ok Tryz.prog := Ent.ok_of mixed (Tab.ok_cons (f := 229) (Ent.ok_cons McK78 Ent.ok_nil) Tab.ok_nil) McT79
def McE80 : Ent := ⟨229, (.cons (.ptr 155177 0) (.cons (nu 3) .nil)), ⟨[McO792, McO793, McO794, McO795, McO796, McO797, McO798, McO799, McO800, McO801, McO802, McO803, McO804, McO805, McO806, McO807, McO808, McO809, McO810, McO811, McO812, McO813, McO814, McO815, McO816, McO817, McO818, McO819, McO820, McO821, McO822, McO823, McO824, McO825, McO826, McO827, McO828, McO829, McO833], 155852⟩, (.agg (avs [(nu 35), (nu 0), (nu 0), (nu 0), (.str 3 7632240), (nu 0), (.sl 156153 0 1 8 false), (nu 22)])), ⟨[McO792, McO793, McO794, McO795, McO796, McO797, McO798, McO799, McO800, McO801, McO802, McO803, McO804, McO805, McO806, McO807, McO808, McO809, McO810, McO811, McO812, McO813, McO814, McO815, McO816, McO817, McO818, McO819, McO820, McO821, McO822, McO823, McO824, McO825, McO826, McO827, McO828, McO829, McO835, McO836], 156158⟩⟩
theorem McT80 : Ent.check Tryz.prog [] 990 McE80 = true := by kernel_rfl
theorem McK80 : McE80.Ok Tryz.prog := Ent.ok_of mixed Tab.ok_nil McT80
def McE81 : Ent := ⟨87, (.cons (.ptr 155177 0) (.cons (nu 2) .nil)), ⟨[McO792, McO793, McO794, McO795, McO796, McO797, McO798, McO799, McO800, McO801, McO802, McO803, McO804, McO805, McO806, McO807, McO808, McO809, McO810, McO811, McO812, McO813, McO814, McO815, McO816, McO817, McO818, McO819, McO820, McO821, McO822, McO823, McO824, McO825, McO826, McO827, McO828, McO829, McO833], 155809⟩, (.agg (avs [(nu 1), (.sl 156400 0 1 8 true), .nils, (nu 0), (nu 0), (nu 0), (.str 0 0), (nu 0), (nu 22)])), ⟨[McO792, McO793, McO794, McO795, McO796, McO797, McO798, McO799, McO800, McO801, McO802, McO803, McO804, McO805, McO806, McO807, McO808, McO809, McO810, McO811, McO812, McO813, McO814, McO815, McO816, McO817, McO818, McO819, McO820, McO821, McO822, McO823, McO824, McO825, McO826, McO827, McO828, McO829, McO837, McO836, McO838], 156404⟩⟩
theorem McT81 : Ent.check Tryz.prog [(229, [McE80])] 990 McE81 = true := by kernel_rfl
theorem McK81 : McE81.Ok Tryz.prog := Ent.ok_of mixed (Tab.ok_cons (f := 229) (Ent.ok_cons McK80 Ent.ok_nil) Tab.ok_nil) McT81
end Go.Proofs.YtpepepkfjimoeaaGreat

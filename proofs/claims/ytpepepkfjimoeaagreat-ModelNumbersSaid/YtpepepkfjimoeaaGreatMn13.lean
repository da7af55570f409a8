/- Calls that were proved one by one: what the evaluator says. -/
import Derived.Test.YtpepepkfjimoeaaGreatMnO
import Derived.Test.YtpepepkfjimoeaaGreatMnOx1
import Derived.Test.YtpepepkfjimoeaaGreatProg
import Derived.ProofKit
import Derived.Test.YtpepepkfjimoeaaGreatVh
import Derived.Test.YtpepepkfjimoeaaGreatMn12
namespace Go.Proofs.YtpepepkfjimoeaaGreat
open Go.Proofs.YtpepepkfjimoeaaGreat.Ev
set_option maxRecDepth 100000

def MnE119 : Ent := ⟨87, (.cons (.ptr 276132 0) (.cons (nu 2) .nil)), ⟨[MnO770, MnO771, MnO772, MnO773, MnO774, MnO775, MnO776, MnO777, MnO778, MnO779, MnO780, MnO781, MnO782, MnO783, MnO784, MnO785, MnO786, MnO787, MnO788, MnO789, MnO790, MnO791, MnO792, MnO793, MnO794, MnO795, MnO796, MnO797, MnO798, MnO799, MnO800, MnO801, MnO802, MnO818], 277986⟩, (.agg (avs [(nu 1), (.sl 278580 0 1 8 true), .nils, (nu 0), (nu 0), (nu 0), (.str 0 0), (nu 0), (nu 42)])), ⟨[MnO770, MnO771, MnO772, MnO773, MnO774, MnO775, MnO776, MnO777, MnO778, MnO779, MnO780, MnO781, MnO782, MnO783, MnO784, MnO785, MnO786, MnO787, MnO788, MnO789, MnO790, MnO791, MnO792, MnO793, MnO794, MnO795, MnO796, MnO797, MnO798, MnO799, MnO800, MnO801, MnO802, MnO823, MnO821, MnO822, MnO824], 278584⟩⟩
theorem MnT119 : Ent.check Tryz.prog [(229, [MnE118])] 990 MnE119 = true := by kernel_rfl
theorem MnK119 : MnE119.Ok Tryz.prog := Ent.ok_of mixed (Tab.ok_cons (f := 229) (Ent.ok_cons MnK118 Ent.ok_nil) Tab.ok_nil) MnT119
def MnE120 : Ent := ⟨105, (.cons (.ptr 278697 0) (.cons (.sl 278694 0 4 9 false) .nil)), ⟨[MnO825, MnO826, MnO827, MnO828, MnO829, MnO830, MnO831, MnO832, MnO833, MnO834, MnO835, MnO836, MnO837, MnO838, MnO839, MnO840, MnO841, MnO842, MnO843], 278725⟩, (.tup (avs [])), ⟨[MnO844, MnO826, MnO845, MnO828, MnO846, MnO847, MnO848, MnO832, MnO849, MnO850, MnO851, MnO836, MnO852, MnO853, MnO854, MnO840, MnO841, MnO855, MnO843], 278981⟩⟩
theorem MnT120 : Ent.check Tryz.prog [] 990 MnE120 = true := by kernel_rfl
theorem MnK120 : MnE120.Ok Tryz.prog := Ent.ok_of mixed Tab.ok_nil MnT120
def MnE121 : Ent := ⟨19, (.cons (.str 51 323377985552519627753079551215570382179879691479652024703601386557733428546255962465261325485410868925276655988671216119401) .nil), ⟨[], 250258⟩, (.tup (avs [(.agg (avs [.nils, (.sl 278696 0 1 8 false)])), (.bool true)])), ⟨[MnO844, MnO826, MnO845, MnO828, MnO846, MnO847, MnO848, MnO832, MnO849, MnO850, MnO851, MnO836, MnO852, MnO853, MnO854, MnO840, MnO841], 279000⟩⟩
theorem MnT121 : Ent.check Tryz.prog [(22, [MnE111]), (114, [MnE113]), (87, [MnE115, MnE117, MnE119]), (105, [MnE120])] 990 MnE121 = true := by kernel_rfl
theorem MnK121 : MnE121.Ok Tryz.prog := Ent.ok_of mixed (Tab.ok_cons (f := 22) (Ent.ok_cons MnK111 Ent.ok_nil) (Tab.ok_cons (f := 114) (Ent.ok_cons MnK113 Ent.ok_nil) (Tab.ok_cons (f := 87) (Ent.ok_cons MnK115 (Ent.ok_cons MnK117 (Ent.ok_cons MnK119 Ent.ok_nil))) (Tab.ok_cons (f := 105) (Ent.ok_cons MnK120 Ent.ok_nil) Tab.ok_nil)))) MnT121
def MnE122 : Ent := ⟨67, (.cons (.ptr 279161 0) (.cons (.sl 279048 0 4 9 false) .nil)), ⟨[MnO856, MnO857, MnO858, MnO859, MnO860, MnO861, MnO862, MnO863, MnO864, MnO865, MnO866, MnO867, MnO868, MnO869, MnO870, MnO871, MnO872, MnO873], 279183⟩, (.tup (avs [])), ⟨[MnO856, MnO857, MnO858, MnO859, MnO860, MnO861, MnO862, MnO863, MnO864, MnO865, MnO866, MnO867, MnO868, MnO869, MnO874, MnO871, MnO872, MnO873], 279426⟩⟩
theorem MnT122 : Ent.check Tryz.prog [] 990 MnE122 = true := by kernel_rfl
theorem MnK122 : MnE122.Ok Tryz.prog := Ent.ok_of mixed Tab.ok_nil MnT122
def MnE123 : Ent := ⟨20, (.cons (.agg (avs [.nils, (.sl 278696 0 1 8 false)])) (.cons .nils (.cons (nu 2000) .nil))), ⟨[MnO844, MnO826, MnO845, MnO828, MnO846, MnO847, MnO848, MnO832, MnO849, MnO850, MnO851, MnO836, MnO852, MnO853, MnO854, MnO840, MnO841], 279001⟩, (.tup (avs [(.agg (avs [(nu 1), (nu 0), (.sl 279883 0 4 1 false), (nu 16), (nu 1)])), (nu 0)])), ⟨[MnO844, MnO826, MnO845, MnO828, MnO846, MnO847, MnO848, MnO832, MnO849, MnO850, MnO851, MnO836, MnO852, MnO853, MnO854, MnO840, MnO841, MnO875, MnO876, MnO877, MnO878], 279944⟩⟩
theorem MnT123 : Ent.check Tryz.prog [(67, [MnE122])] 990 MnE123 = true := by kernel_rfl
theorem MnK123 : MnE123.Ok Tryz.prog := Ent.ok_of mixed (Tab.ok_cons (f := 67) (Ent.ok_cons MnK122 Ent.ok_nil) Tab.ok_nil) MnT123
def MnE124 : Ent := ⟨22, (.cons (.str 52 82784764342692150932380120379621358323114669988663982307181849067874005815553994558751884587943397762692582530318424138346089) .nil), ⟨[], 280004⟩, (.tup (avs [(.sl 299734 0 31 4 false), (.agg (avs [(nu 0), (nu 0)]))])), ⟨[MnO879, MnO880, MnO881, MnO882, MnO883, MnO884, MnO885, MnO886, MnO887, MnO888, MnO889, MnO890, MnO891, MnO892, MnO893, MnO894, MnO895, MnO896, MnO897, MnO898, MnO899, MnO900, MnO901, MnO902, MnO903, MnO904, MnO905, MnO906, MnO907, MnO908, MnO909], 299735⟩⟩
theorem MnT124 : Ent.check Tryz.prog [] 990 MnE124 = true := by kernel_rfl
theorem MnK124 : MnE124.Ok Tryz.prog := Ent.ok_of mixed Tab.ok_nil MnT124
def MnE125 : Ent := ⟨171, (.cons (.ptr 299736 0) (.cons (nu 3) (.cons (nu 5) .nil))), ⟨[MnO879, MnO880, MnO881, MnO882, MnO883, MnO884, MnO885, MnO886, MnO887, MnO888, MnO889, MnO890, MnO891, MnO892, MnO893, MnO894, MnO895, MnO896, MnO897, MnO898, MnO899, MnO900, MnO901, MnO902, MnO903, MnO904, MnO905, MnO906, MnO907, MnO908, MnO909, MnO910], 299807⟩, (.agg (avs [(nu 19), (nu 0), (nu 0), (nu 0), (.str 0 0), (nu 0), (.sl 299950 0 2 8 true), (nu 28)])), ⟨[MnO879, MnO880, MnO881, MnO882, MnO883, MnO884, MnO885, MnO886, MnO887, MnO888, MnO889, MnO890, MnO891, MnO892, MnO893, MnO894, MnO895, MnO896, MnO897, MnO898, MnO899, MnO900, MnO901, MnO902, MnO903, MnO904, MnO905, MnO906, MnO907, MnO908, MnO909, MnO911, MnO912, MnO913], 300068⟩⟩
theorem MnT125 : Ent.check Tryz.prog [] 990 MnE125 = true := by kernel_rfl
theorem MnK125 : MnE125.Ok Tryz.prog := Ent.ok_of mixed Tab.ok_nil MnT125
def MnE126 : Ent := ⟨171, (.cons (.ptr 299736 0) (.cons (nu 4) (.cons (nu 4) .nil))), ⟨[MnO879, MnO880, MnO881, MnO882, MnO883, MnO884, MnO885, MnO886, MnO887, MnO888, MnO889, MnO890, MnO891, MnO892, MnO893, MnO894, MnO895, MnO896, MnO897, MnO898, MnO899, MnO900, MnO901, MnO902, MnO903, MnO904, MnO905, MnO906, MnO907, MnO908, MnO909, MnO914], 300266⟩, (.agg (avs [(nu 16), (nu 0), (nu 0), (nu 0), (.str 0 0), (nu 0), (.sl 300365 0 2 8 true), (nu 36)])), ⟨[MnO879, MnO880, MnO881, MnO882, MnO883, MnO884, MnO885, MnO886, MnO887, MnO888, MnO889, MnO890, MnO891, MnO892, MnO893, MnO894, MnO895, MnO896, MnO897, MnO898, MnO899, MnO900, MnO901, MnO902, MnO903, MnO904, MnO905, MnO906, MnO907, MnO908, MnO909, MnO915, MnO916, MnO917], 300529⟩⟩
theorem MnT126 : Ent.check Tryz.prog [] 990 MnE126 = true := by kernel_rfl
theorem MnK126 : MnE126.Ok Tryz.prog := Ent.ok_of mixed Tab.ok_nil MnT126
def MnE127 : Ent := ⟨171, (.cons (.ptr 299736 0) (.cons (nu 3) (.cons (nu 2) .nil))), ⟨[MnO879, MnO880, MnO881, MnO882, MnO883, MnO884, MnO885, MnO886, MnO887, MnO888, MnO889, MnO890, MnO891, MnO892, MnO893, MnO894, MnO895, MnO896, MnO897, MnO898, MnO899, MnO900, MnO901, MnO902, MnO903, MnO904, MnO905, MnO906, MnO907, MnO908, MnO909, MnO918], 300217⟩, (.agg (avs [(nu 35), (nu 0), (nu 0), (nu 0), (.str 3 7632240), (nu 0), (.sl 300628 0 1 8 false), (nu 31)])), ⟨[MnO879, MnO880, MnO881, MnO882, MnO883, MnO884, MnO885, MnO886, MnO887, MnO888, MnO889, MnO890, MnO891, MnO892, MnO893, MnO894, MnO895, MnO896, MnO897, MnO898, MnO899, MnO900, MnO901, MnO902, MnO903, MnO904, MnO905, MnO906, MnO907, MnO908, MnO909, MnO919, MnO916, MnO917, MnO920], 300822⟩⟩
theorem MnT127 : Ent.check Tryz.prog [(171, [MnE126])] 990 MnE127 = true := by kernel_rfl
theorem MnK127 : MnE127.Ok Tryz.prog := Ent.ok_of mixed (Tab.ok_cons (f := 171) (Ent.ok_cons MnK126 Ent.ok_nil) Tab.ok_nil) MnT127
end Go.Proofs.YtpepepkfjimoeaaGreat

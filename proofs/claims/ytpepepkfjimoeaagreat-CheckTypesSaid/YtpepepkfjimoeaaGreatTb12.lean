/- Calls that were proved one by one: what the evaluator says. -/
import Derived.Test.YtpepepkfjimoeaaGreatTbO
import Derived.Test.YtpepepkfjimoeaaGreatProg
import Derived.ProofKit
import Derived.Test.YtpepepkfjimoeaaGreatVh
namespace Go.Proofs.YtpepepkfjimoeaaGreat
open Go.Proofs.YtpepepkfjimoeaaGreat.Ev
set_option maxRecDepth 100000

def TbE118 : Ent := ⟨22, (.cons (.str 23 12018701328960055491291372347734575320120814701894725225) .nil), ⟨[], 322911⟩, (.tup (avs [(.sl 334461 0 16 4 false), (.agg (avs [(nu 0), (nu 0)]))])), ⟨[TbO738, TbO739, TbO740, TbO741, TbO742, TbO743, TbO744, TbO745, TbO746, TbO747, TbO748, TbO749, TbO750, TbO751, TbO752, TbO753], 334462⟩⟩
theorem TbT118 : Ent.check Tryz.prog [] 990 TbE118 = true := by kernel_rfl
theorem TbK118 : TbE118.Ok Tryz.prog := Ent.ok_of mixed Tab.ok_nil TbT118
def TbE119 : Ent := ⟨16, (.cons (.str 23 12018701328960055491291372347734575320120814701894725225) .nil), ⟨[], 322909⟩, (.tup (avs [(.agg (avs [(.sl 334523 0 1 6 false), (.sl 334573 0 1 8 false)])), (.agg (avs [(nu 0), (nu 0)]))])), ⟨[TbO754, TbO755], 334574⟩⟩
theorem TbT119 : Ent.check Tryz.prog [(22, [TbE118])] 990 TbE119 = true := by kernel_rfl
theorem TbK119 : TbE119.Ok Tryz.prog := Ent.ok_of mixed (Tab.ok_cons (f := 22) (Ent.ok_cons TbK118 Ent.ok_nil) Tab.ok_nil) TbT119
def TbE120 : Ent := ⟨22, (.cons (.str 20 716370423374179332929335376485250457549545959017) .nil), ⟨[], 334684⟩, (.tup (avs [(.sl 343123 0 13 4 false), (.agg (avs [(nu 0), (nu 0)]))])), ⟨[TbO756, TbO757, TbO758, TbO759, TbO760, TbO761, TbO762, TbO763, TbO764, TbO765, TbO766, TbO767, TbO768], 343124⟩⟩
theorem TbT120 : Ent.check Tryz.prog [] 990 TbE120 = true := by kernel_rfl
theorem TbK120 : TbE120.Ok Tryz.prog := Ent.ok_of mixed Tab.ok_nil TbT120
def TbE121 : Ent := ⟨16, (.cons (.str 20 716370423374179332929335376485250457549545959017) .nil), ⟨[], 334682⟩, (.tup (avs [(.agg (avs [(.sl 343177 0 1 6 false), (.sl 343227 0 1 8 false)])), (.agg (avs [(nu 0), (nu 0)]))])), ⟨[TbO769, TbO770, TbO771], 343228⟩⟩
theorem TbT121 : Ent.check Tryz.prog [(22, [TbE120])] 990 TbE121 = true := by kernel_rfl
theorem TbK121 : TbE121.Ok Tryz.prog := Ent.ok_of mixed (Tab.ok_cons (f := 22) (Ent.ok_cons TbK120 Ent.ok_nil) Tab.ok_nil) TbT121
def TbE122 : Ent := ⟨22, (.cons (.str 39 4081631847034981616337209725147395809187330083826488833606264821828423813199364611040943042153) .nil), ⟨[], 343340⟩, (.tup (avs [(.sl 354389 0 18 4 false), (.agg (avs [(nu 0), (nu 0)]))])), ⟨[TbO772, TbO773, TbO774, TbO775, TbO776, TbO777, TbO778, TbO779, TbO780, TbO781, TbO782, TbO783, TbO784, TbO785, TbO786, TbO787, TbO788, TbO789], 354390⟩⟩
theorem TbT122 : Ent.check Tryz.prog [] 990 TbE122 = true := by kernel_rfl
theorem TbK122 : TbE122.Ok Tryz.prog := Ent.ok_of mixed Tab.ok_nil TbT122
def TbE123 : Ent := ⟨171, (.cons (.ptr 354391 0) (.cons (nu 3) (.cons (nu 8) .nil))), ⟨[TbO772, TbO773, TbO774, TbO775, TbO776, TbO777, TbO778, TbO779, TbO780, TbO781, TbO782, TbO783, TbO784, TbO785, TbO786, TbO787, TbO788, TbO789, TbO790], 354488⟩, (.agg (avs [(nu 18), (nu 0), (nu 0), (nu 0), (.str 0 0), (nu 0), (.sl 354630 0 2 8 true), (nu 35)])), ⟨[TbO772, TbO773, TbO774, TbO775, TbO776, TbO777, TbO778, TbO779, TbO780, TbO781, TbO782, TbO783, TbO784, TbO785, TbO786, TbO787, TbO788, TbO789, TbO791, TbO792], 354679⟩⟩
theorem TbT123 : Ent.check Tryz.prog [] 990 TbE123 = true := by kernel_rfl
theorem TbK123 : TbE123.Ok Tryz.prog := Ent.ok_of mixed Tab.ok_nil TbT123
def TbE124 : Ent := ⟨87, (.cons (.ptr 354391 0) (.cons (nu 2) .nil)), ⟨[TbO772, TbO773, TbO774, TbO775, TbO776, TbO777, TbO778, TbO779, TbO780, TbO781, TbO782, TbO783, TbO784, TbO785, TbO786, TbO787, TbO788, TbO789, TbO793], 354459⟩, (.agg (avs [(nu 13), (.sl 354870 0 1 8 true), .nils, (nu 0), (nu 0), (nu 0), (.str 0 0), (nu 0), (nu 17)])), ⟨[TbO772, TbO773, TbO774, TbO775, TbO776, TbO777, TbO778, TbO779, TbO780, TbO781, TbO782, TbO783, TbO784, TbO785, TbO786, TbO787, TbO788, TbO789, TbO794, TbO792, TbO795], 354874⟩⟩
theorem TbT124 : Ent.check Tryz.prog [(171, [TbE123])] 990 TbE124 = true := by kernel_rfl
theorem TbK124 : TbE124.Ok Tryz.prog := Ent.ok_of mixed (Tab.ok_cons (f := 171) (Ent.ok_cons TbK123 Ent.ok_nil) Tab.ok_nil) TbT124
def TbE125 : Ent := ⟨23, (.cons (.ptr 354391 0) .nil), ⟨[TbO772, TbO773, TbO774, TbO775, TbO776, TbO777, TbO778, TbO779, TbO780, TbO781, TbO782, TbO783, TbO784, TbO785, TbO786, TbO787, TbO788, TbO789, TbO796], 354392⟩, (.tup (avs [])), ⟨[TbO772, TbO773, TbO774, TbO775, TbO776, TbO777, TbO778, TbO779, TbO780, TbO781, TbO782, TbO783, TbO784, TbO785, TbO786, TbO787, TbO788, TbO789, TbO797, TbO798, TbO792, TbO795, TbO799, TbO800], 354894⟩⟩
theorem TbT125 : Ent.check Tryz.prog [(87, [TbE124])] 990 TbE125 = true := by kernel_rfl
theorem TbK125 : TbE125.Ok Tryz.prog := Ent.ok_of mixed (Tab.ok_cons (f := 87) (Ent.ok_cons TbK124 Ent.ok_nil) Tab.ok_nil) TbT125
end Go.Proofs.YtpepepkfjimoeaaGreat

/- Calls that were proved one by one: what the evaluator says. -/
import Derived.Test.YtpepepkfjimoeaaGreatMpO
import Derived.Test.YtpepepkfjimoeaaGreatMpOx1
import Derived.Test.YtpepepkfjimoeaaGreatProg
import Derived.ProofKit
import Derived.Test.YtpepepkfjimoeaaGreatVh
namespace Go.Proofs.YtpepepkfjimoeaaGreat
open Go.Proofs.YtpepepkfjimoeaaGreat.Ev
set_option maxRecDepth 100000

def MpE115 : Ent := ⟨22, (.cons (.str 49 4934356450846794380446778467991048298008459768255796772287664731014660633388533358160359137221483335868186060142177897) .nil), ⟨[], 281436⟩, (.tup (avs [(.sl 300739 0 27 4 false), (.agg (avs [(nu 0), (nu 0)]))])), ⟨[MpO1109, MpO1110, MpO1111, MpO1112, MpO1113, MpO1114, MpO1115, MpO1116, MpO1117, MpO1118, MpO1119, MpO1120, MpO1121, MpO1122, MpO1123, MpO1124, MpO1125, MpO1126, MpO1127, MpO1128, MpO1129, MpO1130, MpO1131, MpO1132, MpO1133, MpO1134, MpO1135], 300740⟩⟩
theorem MpT115 : Ent.check Tryz.prog [] 990 MpE115 = true := by kernel_rfl
theorem MpK115 : MpE115.Ok Tryz.prog := Ent.ok_of mixed Tab.ok_nil MpT115
def MpE116 : Ent := ⟨87, (.cons (.ptr 300741 0) (.cons (nu 2) .nil)), ⟨[MpO1109, MpO1110, MpO1111, MpO1112, MpO1113, MpO1114, MpO1115, MpO1116, MpO1117, MpO1118, MpO1119, MpO1120, MpO1121, MpO1122, MpO1123, MpO1124, MpO1125, MpO1126, MpO1127, MpO1128, MpO1129, MpO1130, MpO1131, MpO1132, MpO1133, MpO1134, MpO1135, MpO1136], 300812⟩, (.agg (avs [(nu 13), (.sl 301119 0 1 8 true), .nils, (nu 0), (nu 0), (nu 0), (.str 0 0), (nu 0), (nu 14)])), ⟨[MpO1109, MpO1110, MpO1111, MpO1112, MpO1113, MpO1114, MpO1115, MpO1116, MpO1117, MpO1118, MpO1119, MpO1120, MpO1121, MpO1122, MpO1123, MpO1124, MpO1125, MpO1126, MpO1127, MpO1128, MpO1129, MpO1130, MpO1131, MpO1132, MpO1133, MpO1134, MpO1135, MpO1137, MpO1138, MpO1139], 301123⟩⟩
theorem MpT116 : Ent.check Tryz.prog [] 990 MpE116 = true := by kernel_rfl
theorem MpK116 : MpE116.Ok Tryz.prog := Ent.ok_of mixed Tab.ok_nil MpT116
def MpE117 : Ent := ⟨114, (.cons (.ptr 300741 0) (.cons (nu 3) .nil)), ⟨[MpO1109, MpO1110, MpO1111, MpO1112, MpO1113, MpO1114, MpO1115, MpO1116, MpO1117, MpO1118, MpO1119, MpO1120, MpO1121, MpO1122, MpO1123, MpO1124, MpO1125, MpO1126, MpO1127, MpO1128, MpO1129, MpO1130, MpO1131, MpO1132, MpO1133, MpO1134, MpO1135, MpO1140, MpO1141, MpO1138, MpO1139, MpO1142, MpO1143], 301195⟩, (.agg (avs [(nu 4), (nu 0), (nu 0), (nu 0), (.str 0 0), (nu 0), (.sl 301249 0 1 8 true), (nu 43)])), ⟨[MpO1109, MpO1110, MpO1111, MpO1112, MpO1113, MpO1114, MpO1115, MpO1116, MpO1117, MpO1118, MpO1119, MpO1120, MpO1121, MpO1122, MpO1123, MpO1124, MpO1125, MpO1126, MpO1127, MpO1128, MpO1129, MpO1130, MpO1131, MpO1132, MpO1133, MpO1134, MpO1135, MpO1144, MpO1141, MpO1138, MpO1139, MpO1142, MpO1143, MpO1145], 301487⟩⟩
theorem MpT117 : Ent.check Tryz.prog [] 990 MpE117 = true := by kernel_rfl
theorem MpK117 : MpE117.Ok Tryz.prog := Ent.ok_of mixed Tab.ok_nil MpT117
def MpE118 : Ent := ⟨16, (.cons (.str 49 4934356450846794380446778467991048298008459768255796772287664731014660633388533358160359137221483335868186060142177897) .nil), ⟨[], 281434⟩, (.tup (avs [(.agg (avs [.nils, (.sl 301510 0 2 8 false)])), (.agg (avs [(nu 0), (nu 0)]))])), ⟨[MpO1141, MpO1138, MpO1139, MpO1142, MpO1146, MpO1145, MpO1147, MpO1148, MpO1149], 301511⟩⟩
theorem MpT118 : Ent.check Tryz.prog [(22, [MpE115]), (87, [MpE116]), (114, [MpE117])] 990 MpE118 = true := by kernel_rfl
theorem MpK118 : MpE118.Ok Tryz.prog := Ent.ok_of mixed (Tab.ok_cons (f := 22) (Ent.ok_cons MpK115 Ent.ok_nil) (Tab.ok_cons (f := 87) (Ent.ok_cons MpK116 Ent.ok_nil) (Tab.ok_cons (f := 114) (Ent.ok_cons MpK117 Ent.ok_nil) Tab.ok_nil))) MpT118
def MpE119 : Ent := ⟨31, (.cons (.agg (avs [.nils, (.sl 301563 0 2 8 false)])) .nil), ⟨[MpO1150, MpO1151, MpO1152, MpO1153, MpO1154, MpO1155, MpO1156, MpO1157], 301949⟩, (.bool true), ⟨[MpO1150, MpO1151, MpO1152, MpO1153, MpO1154, MpO1155, MpO1156, MpO1157], 302477⟩⟩
theorem MpT119 : Ent.check Tryz.prog [] 990 MpE119 = true := by kernel_rfl
theorem MpK119 : MpE119.Ok Tryz.prog := Ent.ok_of mixed Tab.ok_nil MpT119
def MpE120 : Ent := ⟨13, (.cons (.str 49 4934356450846794380446778467991048298008459768255796772287664731014660633388533358160359137221483335868186060142177897) (.cons .nils .nil)), ⟨[], 281432⟩, (.agg (avs [(nu 3), (nu 0), .nils, (nu 0), (nu 0)])), ⟨[], 302884⟩⟩
theorem MpT120 : Ent.check Tryz.prog [(16, [MpE118]), (31, [MpE119])] 990 MpE120 = true := by kernel_rfl
theorem MpK120 : MpE120.Ok Tryz.prog := Ent.ok_of mixed (Tab.ok_cons (f := 16) (Ent.ok_cons MpK118 Ent.ok_nil) (Tab.ok_cons (f := 31) (Ent.ok_cons MpK119 Ent.ok_nil) Tab.ok_nil)) MpT120
end Go.Proofs.YtpepepkfjimoeaaGreat

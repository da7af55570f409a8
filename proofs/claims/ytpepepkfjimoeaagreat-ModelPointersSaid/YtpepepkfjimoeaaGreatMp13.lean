/- Calls that were proved one by one: what the evaluator says. -/
import Derived.Test.YtpepepkfjimoeaaGreatMpO
import Derived.Test.YtpepepkfjimoeaaGreatMpOx1
import Derived.Test.YtpepepkfjimoeaaGreatProg
import Derived.ProofKit
import Derived.Test.YtpepepkfjimoeaaGreatVh
namespace Go.Proofs.YtpepepkfjimoeaaGreat
open Go.Proofs.YtpepepkfjimoeaaGreat.Ev
set_option maxRecDepth 100000

def MpE100 : Ent := ⟨22, (.cons (.str 30 864320742508762396583772868217937024796401333599232948113151359051918953) .nil), ⟨[], 239856⟩, (.tup (avs [(.sl 250264 0 17 4 false), (.agg (avs [(nu 0), (nu 0)]))])), ⟨[MpO1010, MpO1011, MpO1012, MpO1013, MpO1014, MpO1015, MpO1016, MpO1017, MpO1018, MpO1019, MpO1020, MpO1021, MpO1022, MpO1023, MpO1024, MpO1025, MpO1026], 250265⟩⟩
theorem MpT100 : Ent.check Tryz.prog [] 990 MpE100 = true := by kernel_rfl
theorem MpK100 : MpE100.Ok Tryz.prog := Ent.ok_of mixed Tab.ok_nil MpT100
def MpE101 : Ent := ⟨87, (.cons (.ptr 250266 0) (.cons (nu 2) .nil)), ⟨[MpO1010, MpO1011, MpO1012, MpO1013, MpO1014, MpO1015, MpO1016, MpO1017, MpO1018, MpO1019, MpO1020, MpO1021, MpO1022, MpO1023, MpO1024, MpO1025, MpO1026, MpO1027], 250300⟩, (.agg (avs [(nu 2), (.sl 250607 0 1 8 true), .nils, (nu 5), (nu 1), (nu 0), (.str 1 112), (nu 0), (nu 11)])), ⟨[MpO1010, MpO1011, MpO1012, MpO1013, MpO1014, MpO1015, MpO1016, MpO1017, MpO1018, MpO1019, MpO1020, MpO1021, MpO1022, MpO1023, MpO1024, MpO1025, MpO1026, MpO1028, MpO1029], 250611⟩⟩
theorem MpT101 : Ent.check Tryz.prog [] 990 MpE101 = true := by kernel_rfl
theorem MpK101 : MpE101.Ok Tryz.prog := Ent.ok_of mixed Tab.ok_nil MpT101
def MpE102 : Ent := ⟨87, (.cons (.ptr 250266 0) (.cons (nu 2) .nil)), ⟨[MpO1010, MpO1011, MpO1012, MpO1013, MpO1014, MpO1015, MpO1016, MpO1017, MpO1018, MpO1019, MpO1020, MpO1021, MpO1022, MpO1023, MpO1024, MpO1025, MpO1026, MpO1028], 250614⟩, (.agg (avs [(nu 13), (.sl 250920 0 1 8 true), .nils, (nu 0), (nu 0), (nu 0), (.str 0 0), (nu 0), (nu 19)])), ⟨[MpO1010, MpO1011, MpO1012, MpO1013, MpO1014, MpO1015, MpO1016, MpO1017, MpO1018, MpO1019, MpO1020, MpO1021, MpO1022, MpO1023, MpO1024, MpO1025, MpO1026, MpO1030, MpO1031, MpO1032], 250924⟩⟩
theorem MpT102 : Ent.check Tryz.prog [] 990 MpE102 = true := by kernel_rfl
theorem MpK102 : MpE102.Ok Tryz.prog := Ent.ok_of mixed Tab.ok_nil MpT102
def MpE103 : Ent := ⟨19, (.cons (.str 30 864320742508762396583772868217937024796401333599232948113151359051918953) .nil), ⟨[], 239853⟩, (.tup (avs [(.agg (avs [.nils, (.sl 250981 0 1 8 false)])), (.bool true)])), ⟨[MpO1033, MpO1034, MpO1035, MpO1036, MpO1037, MpO1038], 251258⟩⟩
theorem MpT103 : Ent.check Tryz.prog [(22, [MpE100]), (87, [MpE101, MpE102])] 990 MpE103 = true := by kernel_rfl
theorem MpK103 : MpE103.Ok Tryz.prog := Ent.ok_of mixed (Tab.ok_cons (f := 22) (Ent.ok_cons MpK100 Ent.ok_nil) (Tab.ok_cons (f := 87) (Ent.ok_cons MpK101 (Ent.ok_cons MpK102 Ent.ok_nil)) Tab.ok_nil)) MpT103
def MpE104 : Ent := ⟨20, (.cons (.agg (avs [.nils, (.sl 250981 0 1 8 false)])) (.cons .nils (.cons (nu 2000) .nil))), ⟨[MpO1033, MpO1034, MpO1035, MpO1036, MpO1037, MpO1038], 251259⟩, (.tup (avs [(.agg (avs [(nu 3), (nu 0), .nils, (nu 0), (nu 0)])), (nu 0)])), ⟨[MpO1033, MpO1034, MpO1035, MpO1036, MpO1037, MpO1038], 251930⟩⟩
theorem MpT104 : Ent.check Tryz.prog [] 990 MpE104 = true := by kernel_rfl
theorem MpK104 : MpE104.Ok Tryz.prog := Ent.ok_of mixed Tab.ok_nil MpT104
def MpE105 : Ent := ⟨22, (.cons (.str 31 221264411948200712739916492331944257182322258673551950925376426486827085417) .nil), ⟨[], 251937⟩, (.tup (avs [(.sl 265001 0 21 4 false), (.agg (avs [(nu 0), (nu 0)]))])), ⟨[MpO1039, MpO1040, MpO1041, MpO1042, MpO1043, MpO1044, MpO1045, MpO1046, MpO1047, MpO1048, MpO1049, MpO1050, MpO1051, MpO1052, MpO1053, MpO1054, MpO1055, MpO1056, MpO1057, MpO1058, MpO1059], 265002⟩⟩
theorem MpT105 : Ent.check Tryz.prog [] 990 MpE105 = true := by kernel_rfl
theorem MpK105 : MpE105.Ok Tryz.prog := Ent.ok_of mixed Tab.ok_nil MpT105
def MpE106 : Ent := ⟨171, (.cons (.ptr 265003 0) (.cons (nu 3) (.cons (nu 4) .nil))), ⟨[MpO1039, MpO1040, MpO1041, MpO1042, MpO1043, MpO1044, MpO1045, MpO1046, MpO1047, MpO1048, MpO1049, MpO1050, MpO1051, MpO1052, MpO1053, MpO1054, MpO1055, MpO1056, MpO1057, MpO1058, MpO1059, MpO1060], 265118⟩, (.agg (avs [(nu 19), (nu 0), (nu 0), (nu 0), (.str 0 0), (nu 0), (.sl 265256 0 2 8 true), (nu 27)])), ⟨[MpO1039, MpO1040, MpO1041, MpO1042, MpO1043, MpO1044, MpO1045, MpO1046, MpO1047, MpO1048, MpO1049, MpO1050, MpO1051, MpO1052, MpO1053, MpO1054, MpO1055, MpO1056, MpO1057, MpO1058, MpO1059, MpO1061, MpO1062], 265397⟩⟩
theorem MpT106 : Ent.check Tryz.prog [] 990 MpE106 = true := by kernel_rfl
theorem MpK106 : MpE106.Ok Tryz.prog := Ent.ok_of mixed Tab.ok_nil MpT106
def MpE107 : Ent := ⟨48, (.cons (.ptr 265003 0) (.cons (nu 1) .nil)), ⟨[MpO1039, MpO1040, MpO1041, MpO1042, MpO1043, MpO1044, MpO1045, MpO1046, MpO1047, MpO1048, MpO1049, MpO1050, MpO1051, MpO1052, MpO1053, MpO1054, MpO1055, MpO1056, MpO1057, MpO1058, MpO1059, MpO1063], 265033⟩, (.sl 265501 0 2 9 false), ⟨[MpO1039, MpO1040, MpO1041, MpO1042, MpO1043, MpO1044, MpO1045, MpO1046, MpO1047, MpO1048, MpO1049, MpO1050, MpO1051, MpO1052, MpO1053, MpO1054, MpO1055, MpO1056, MpO1057, MpO1058, MpO1059, MpO1064, MpO1065, MpO1062, MpO1066, MpO1067], 265506⟩⟩
theorem MpT107 : Ent.check Tryz.prog [(171, [MpE106])] 990 MpE107 = true := by kernel_rfl
theorem MpK107 : MpE107.Ok Tryz.prog := Ent.ok_of mixed (Tab.ok_cons (f := 171) (Ent.ok_cons MpK106 Ent.ok_nil) Tab.ok_nil) MpT107
def MpE108 : Ent := ⟨19, (.cons (.str 31 221264411948200712739916492331944257182322258673551950925376426486827085417) .nil), ⟨[], 251934⟩, (.tup (avs [(.agg (avs [.nils, (.sl 265557 0 1 8 false)])), (.bool true)])), ⟨[MpO1068, MpO1069, MpO1070, MpO1071, MpO1072, MpO1073], 265908⟩⟩
theorem MpT108 : Ent.check Tryz.prog [(22, [MpE105]), (48, [MpE107])] 990 MpE108 = true := by kernel_rfl
theorem MpK108 : MpE108.Ok Tryz.prog := Ent.ok_of mixed (Tab.ok_cons (f := 22) (Ent.ok_cons MpK105 Ent.ok_nil) (Tab.ok_cons (f := 48) (Ent.ok_cons MpK107 Ent.ok_nil) Tab.ok_nil)) MpT108
end Go.Proofs.YtpepepkfjimoeaaGreat

/- Calls that were proved one by one: what the evaluator says. -/
import Derived.Test.YtpepepkfjimoeaaGreatMnO
import Derived.Test.YtpepepkfjimoeaaGreatMnOx1
import Derived.Test.YtpepepkfjimoeaaGreatProg
import Derived.ProofKit
import Derived.Test.YtpepepkfjimoeaaGreatVh
import Derived.Test.YtpepepkfjimoeaaGreatMn13
namespace Go.Proofs.YtpepepkfjimoeaaGreat
open Go.Proofs.YtpepepkfjimoeaaGreat.Ev
set_option maxRecDepth 100000

def MnE128 : Ent := ⟨171, (.cons (.ptr 299736 0) (.cons (nu 4) (.cons (nu 4) .nil))), ⟨[MnO879, MnO880, MnO881, MnO882, MnO883, MnO884, MnO885, MnO886, MnO887, MnO888, MnO889, MnO890, MnO891, MnO892, MnO893, MnO894, MnO895, MnO896, MnO897, MnO898, MnO899, MnO900, MnO901, MnO902, MnO903, MnO904, MnO905, MnO906, MnO907, MnO908, MnO909, MnO921], 300951⟩, (.agg (avs [(nu 17), (nu 0), (nu 0), (nu 0), (.str 0 0), (nu 0), (.sl 301050 0 2 8 true), (nu 46)])), ⟨[MnO879, MnO880, MnO881, MnO882, MnO883, MnO884, MnO885, MnO886, MnO887, MnO888, MnO889, MnO890, MnO891, MnO892, MnO893, MnO894, MnO895, MnO896, MnO897, MnO898, MnO899, MnO900, MnO901, MnO902, MnO903, MnO904, MnO905, MnO906, MnO907, MnO908, MnO909, MnO922, MnO923, MnO924], 301214⟩⟩
theorem MnT128 : Ent.check Tryz.prog [] 990 MnE128 = true := by kernel_rfl
theorem MnK128 : MnE128.Ok Tryz.prog := Ent.ok_of mixed Tab.ok_nil MnT128
def MnE129 : Ent := ⟨171, (.cons (.ptr 299736 0) (.cons (nu 3) (.cons (nu 2) .nil))), ⟨[MnO879, MnO880, MnO881, MnO882, MnO883, MnO884, MnO885, MnO886, MnO887, MnO888, MnO889, MnO890, MnO891, MnO892, MnO893, MnO894, MnO895, MnO896, MnO897, MnO898, MnO899, MnO900, MnO901, MnO902, MnO903, MnO904, MnO905, MnO906, MnO907, MnO908, MnO909, MnO925], 300902⟩, (.agg (avs [(nu 35), (nu 0), (nu 0), (nu 0), (.str 3 7632240), (nu 0), (.sl 301313 0 1 8 false), (nu 41)])), ⟨[MnO879, MnO880, MnO881, MnO882, MnO883, MnO884, MnO885, MnO886, MnO887, MnO888, MnO889, MnO890, MnO891, MnO892, MnO893, MnO894, MnO895, MnO896, MnO897, MnO898, MnO899, MnO900, MnO901, MnO902, MnO903, MnO904, MnO905, MnO906, MnO907, MnO908, MnO909, MnO926, MnO923, MnO924, MnO927], 301507⟩⟩
theorem MnT129 : Ent.check Tryz.prog [(171, [MnE128])] 990 MnE129 = true := by kernel_rfl
theorem MnK129 : MnE129.Ok Tryz.prog := Ent.ok_of mixed (Tab.ok_cons (f := 171) (Ent.ok_cons MnK128 Ent.ok_nil) Tab.ok_nil) MnT129
def MnE130 : Ent := ⟨48, (.cons (.ptr 299736 0) (.cons (nu 1) .nil)), ⟨[MnO879, MnO880, MnO881, MnO882, MnO883, MnO884, MnO885, MnO886, MnO887, MnO888, MnO889, MnO890, MnO891, MnO892, MnO893, MnO894, MnO895, MnO896, MnO897, MnO898, MnO899, MnO900, MnO901, MnO902, MnO903, MnO904, MnO905, MnO906, MnO907, MnO908, MnO909, MnO928], 299766⟩, (.sl 301565 0 3 9 false), ⟨[MnO879, MnO880, MnO881, MnO882, MnO883, MnO884, MnO885, MnO886, MnO887, MnO888, MnO889, MnO890, MnO891, MnO892, MnO893, MnO894, MnO895, MnO896, MnO897, MnO898, MnO899, MnO900, MnO901, MnO902, MnO903, MnO904, MnO905, MnO906, MnO907, MnO908, MnO909, MnO929, MnO912, MnO913, MnO930, MnO931, MnO916, MnO917, MnO920, MnO932, MnO933, MnO923, MnO924, MnO927, MnO934, MnO935], 301570⟩⟩
theorem MnT130 : Ent.check Tryz.prog [(171, [MnE125, MnE127, MnE129])] 990 MnE130 = true := by kernel_rfl
theorem MnK130 : MnE130.Ok Tryz.prog := Ent.ok_of mixed (Tab.ok_cons (f := 171) (Ent.ok_cons MnK125 (Ent.ok_cons MnK127 (Ent.ok_cons MnK129 Ent.ok_nil))) Tab.ok_nil) MnT130
def MnE131 : Ent := ⟨105, (.cons (.ptr 301682 0) (.cons (.sl 301679 0 3 9 false) .nil)), ⟨[MnO936, MnO937, MnO938, MnO939, MnO940, MnO941, MnO942, MnO943, MnO944, MnO945, MnO946, MnO947, MnO948, MnO949, MnO950, MnO951, MnO952, MnO953, MnO954, MnO955], 301710⟩, (.tup (avs [])), ⟨[MnO956, MnO957, MnO958, MnO959, MnO960, MnO961, MnO962, MnO963, MnO964, MnO965, MnO966, MnO967, MnO968, MnO969, MnO970, MnO971, MnO972], 302214⟩⟩
theorem MnT131 : Ent.check Tryz.prog [] 990 MnE131 = true := by kernel_rfl
theorem MnK131 : MnE131.Ok Tryz.prog := Ent.ok_of mixed Tab.ok_nil MnT131
def MnE132 : Ent := ⟨67, (.cons (.ptr 302372 0) (.cons (.sl 302283 0 3 9 false) .nil)), ⟨[MnO973, MnO974, MnO975, MnO976, MnO977, MnO978, MnO979, MnO980, MnO981, MnO982, MnO983, MnO984, MnO985, MnO986, MnO987, MnO988, MnO989], 302394⟩, (.tup (avs [])), ⟨[MnO990, MnO974, MnO975, MnO976, MnO977, MnO978, MnO979, MnO980, MnO981, MnO982, MnO983, MnO984, MnO985, MnO991, MnO992, MnO988, MnO989, MnO993], 302865⟩⟩
theorem MnT132 : Ent.check Tryz.prog [] 990 MnE132 = true := by kernel_rfl
theorem MnK132 : MnE132.Ok Tryz.prog := Ent.ok_of mixed Tab.ok_nil MnT132
def MnE133 : Ent := ⟨31, (.cons (.agg (avs [.nils, (.sl 301681 0 1 8 false)])) .nil), ⟨[MnO956, MnO957, MnO958, MnO959, MnO960, MnO961, MnO962, MnO963, MnO964, MnO965, MnO966, MnO967, MnO968, MnO972], 302236⟩, (.bool true), ⟨[MnO956, MnO957, MnO958, MnO959, MnO960, MnO961, MnO962, MnO963, MnO964, MnO965, MnO966, MnO967, MnO968, MnO972], 302957⟩⟩
theorem MnT133 : Ent.check Tryz.prog [(67, [MnE132])] 990 MnE133 = true := by kernel_rfl
theorem MnK133 : MnE133.Ok Tryz.prog := Ent.ok_of mixed (Tab.ok_cons (f := 67) (Ent.ok_cons MnK132 Ent.ok_nil) Tab.ok_nil) MnT133
def MnE134 : Ent := ⟨82, (.cons (.ptr 302957 0) (.cons (.sl 301679 0 3 9 false) .nil)), ⟨[MnO956, MnO957, MnO958, MnO959, MnO960, MnO961, MnO962, MnO963, MnO964, MnO965, MnO966, MnO967, MnO968, MnO972, MnO994, MnO995, MnO996, MnO997, MnO998, MnO999], 303011⟩, (nu 0), ⟨[MnO956, MnO957, MnO958, MnO959, MnO960, MnO961, MnO962, MnO963, MnO964, MnO965, MnO966, MnO967, MnO968, MnO972, MnO1000, MnO995, MnO1001, MnO997, MnO998, MnO999, MnO1002, MnO1003], 303742⟩⟩
theorem MnT134 : Ent.check Tryz.prog [] 990 MnE134 = true := by kernel_rfl
theorem MnK134 : MnE134.Ok Tryz.prog := Ent.ok_of mixed Tab.ok_nil MnT134
def MnE135 : Ent := ⟨22, (.cons (.str 28 13188389808205803994902396959577893194823295650215681297585771146857) .nil), ⟨[], 303843⟩, (.tup (avs [(.sl 314168 0 15 4 false), (.agg (avs [(nu 0), (nu 0)]))])), ⟨[MnO1004, MnO1005, MnO1006, MnO1007, MnO1008, MnO1009, MnO1010, MnO1011, MnO1012, MnO1013, MnO1014, MnO1015, MnO1016, MnO1017, MnO1018], 314169⟩⟩
theorem MnT135 : Ent.check Tryz.prog [] 990 MnE135 = true := by kernel_rfl
theorem MnK135 : MnE135.Ok Tryz.prog := Ent.ok_of mixed Tab.ok_nil MnT135
def MnE136 : Ent := ⟨222, (.cons (.ptr 314170 0) (.cons (nu 3) .nil)), ⟨[MnO1004, MnO1005, MnO1006, MnO1007, MnO1008, MnO1009, MnO1010, MnO1011, MnO1012, MnO1013, MnO1014, MnO1015, MnO1016, MnO1017, MnO1018, MnO1019], 314246⟩, (.agg (avs [(nu 35), (nu 0), (nu 0), (nu 0), (.str 3 7632240), (nu 0), (.sl 314541 0 1 8 false), (nu 11)])), ⟨[MnO1004, MnO1005, MnO1006, MnO1007, MnO1008, MnO1009, MnO1010, MnO1011, MnO1012, MnO1013, MnO1014, MnO1015, MnO1016, MnO1017, MnO1018, MnO1020, MnO1021], 314551⟩⟩
theorem MnT136 : Ent.check Tryz.prog [] 990 MnE136 = true := by kernel_rfl
theorem MnK136 : MnE136.Ok Tryz.prog := Ent.ok_of mixed Tab.ok_nil MnT136
def MnE137 : Ent := ⟨87, (.cons (.ptr 314170 0) (.cons (nu 2) .nil)), ⟨[MnO1004, MnO1005, MnO1006, MnO1007, MnO1008, MnO1009, MnO1010, MnO1011, MnO1012, MnO1013, MnO1014, MnO1015, MnO1016, MnO1017, MnO1018, MnO1019], 314204⟩, (.agg (avs [(nu 1), (.sl 314788 0 1 8 true), .nils, (nu 0), (nu 0), (nu 0), (.str 0 0), (nu 0), (nu 11)])), ⟨[MnO1004, MnO1005, MnO1006, MnO1007, MnO1008, MnO1009, MnO1010, MnO1011, MnO1012, MnO1013, MnO1014, MnO1015, MnO1016, MnO1017, MnO1018, MnO1022, MnO1021, MnO1023], 314792⟩⟩
theorem MnT137 : Ent.check Tryz.prog [(222, [MnE136])] 990 MnE137 = true := by kernel_rfl
theorem MnK137 : MnE137.Ok Tryz.prog := Ent.ok_of mixed (Tab.ok_cons (f := 222) (Ent.ok_cons MnK136 Ent.ok_nil) Tab.ok_nil) MnT137
def MnE138 : Ent := ⟨87, (.cons (.ptr 314170 0) (.cons (nu 2) .nil)), ⟨[MnO1004, MnO1005, MnO1006, MnO1007, MnO1008, MnO1009, MnO1010, MnO1011, MnO1012, MnO1013, MnO1014, MnO1015, MnO1016, MnO1017, MnO1018, MnO1022], 314795⟩, (.agg (avs [(nu 13), (.sl 315088 0 1 8 true), .nils, (nu 0), (nu 0), (nu 0), (.str 0 0), (nu 0), (nu 18)])), ⟨[MnO1004, MnO1005, MnO1006, MnO1007, MnO1008, MnO1009, MnO1010, MnO1011, MnO1012, MnO1013, MnO1014, MnO1015, MnO1016, MnO1017, MnO1018, MnO1024, MnO1025], 315092⟩⟩
theorem MnT138 : Ent.check Tryz.prog [] 990 MnE138 = true := by kernel_rfl
theorem MnK138 : MnE138.Ok Tryz.prog := Ent.ok_of mixed Tab.ok_nil MnT138
def MnE139 : Ent := ⟨20, (.cons (.agg (avs [.nils, (.sl 315149 0 1 8 false)])) (.cons .nils (.cons (nu 2000) .nil))), ⟨[MnO1026, MnO1027, MnO1028, MnO1029, MnO1030, MnO1031], 315320⟩, (.tup (avs [(.agg (avs [(nu 1), (nu 3), (.sl 315667 0 1 1 false), (nu 5), (nu 1)])), (nu 0)])), ⟨[MnO1026, MnO1027, MnO1028, MnO1029, MnO1030, MnO1031, MnO1032], 315803⟩⟩
theorem MnT139 : Ent.check Tryz.prog [] 990 MnE139 = true := by kernel_rfl
theorem MnK139 : MnE139.Ok Tryz.prog := Ent.ok_of mixed Tab.ok_nil MnT139
def MnE140 : Ent := ⟨13, (.cons (.str 28 13188389808205803994902396959577893194823295650215681297585771146857) (.cons .nils .nil)), ⟨[], 303839⟩, (.agg (avs [(nu 1), (nu 3), (.sl 315667 0 1 1 false), (nu 5), (nu 1)])), ⟨[MnO1032], 315804⟩⟩
theorem MnT140 : Ent.check Tryz.prog [(22, [MnE135]), (87, [MnE137, MnE138]), (20, [MnE139])] 990 MnE140 = true := by kernel_rfl
theorem MnK140 : MnE140.Ok Tryz.prog := Ent.ok_of mixed (Tab.ok_cons (f := 22) (Ent.ok_cons MnK135 Ent.ok_nil) (Tab.ok_cons (f := 87) (Ent.ok_cons MnK137 (Ent.ok_cons MnK138 Ent.ok_nil)) (Tab.ok_cons (f := 20) (Ent.ok_cons MnK139 Ent.ok_nil) Tab.ok_nil))) MnT140
end Go.Proofs.YtpepepkfjimoeaaGreat

/- Calls that were proved one by one: what the evaluator says. -/
import Derived.Test.YtpepepkfjimoeaaGreatMpO
import Derived.Test.YtpepepkfjimoeaaGreatMpOx1
import Derived.Test.YtpepepkfjimoeaaGreatProg
import Derived.ProofKit
import Derived.Test.YtpepepkfjimoeaaGreatVh
import Derived.Test.YtpepepkfjimoeaaGreatMp2
import Derived.Test.YtpepepkfjimoeaaGreatMp3
import Derived.Test.YtpepepkfjimoeaaGreatMp4
import Derived.Test.YtpepepkfjimoeaaGreatMp5
import Derived.Test.YtpepepkfjimoeaaGreatMp6
import Derived.Test.YtpepepkfjimoeaaGreatMp7
import Derived.Test.YtpepepkfjimoeaaGreatMp8
import Derived.Test.YtpepepkfjimoeaaGreatMp9
import Derived.Test.YtpepepkfjimoeaaGreatMp10
import Derived.Test.YtpepepkfjimoeaaGreatMp11
namespace Go.Proofs.YtpepepkfjimoeaaGreat
open Go.Proofs.YtpepepkfjimoeaaGreat.Ev
set_option maxRecDepth 100000

def MpE92 : Ent := ⟨20, (.cons (.agg (avs [.nils, (.sl 224368 0 1 8 false)])) (.cons .nils (.cons (nu 2000) .nil))), ⟨[MpO965, MpO966, MpO967, MpO968, MpO969, MpO970], 224539⟩, (.tup (avs [(.agg (avs [(nu 1), (nu 3), (.sl 224886 0 1 1 false), (nu 5), (nu 1)])), (nu 0)])), ⟨[MpO965, MpO966, MpO967, MpO968, MpO969, MpO970, MpO971], 225022⟩⟩
theorem MpT92 : Ent.check Tryz.prog [] 990 MpE92 = true := by kernel_rfl
theorem MpK92 : MpE92.Ok Tryz.prog := Ent.ok_of mixed Tab.ok_nil MpT92
def MpE93 : Ent := ⟨13, (.cons (.str 28 13188389808205803994902396959577893194823295650215681297585771146857) (.cons .nils .nil)), ⟨[], 213058⟩, (.agg (avs [(nu 1), (nu 3), (.sl 224886 0 1 1 false), (nu 5), (nu 1)])), ⟨[MpO971], 225023⟩⟩
theorem MpT93 : Ent.check Tryz.prog [(22, [MpE88]), (87, [MpE90, MpE91]), (20, [MpE92])] 990 MpE93 = true := by kernel_rfl
theorem MpK93 : MpE93.Ok Tryz.prog := Ent.ok_of mixed (Tab.ok_cons (f := 22) (Ent.ok_cons MpK88 Ent.ok_nil) (Tab.ok_cons (f := 87) (Ent.ok_cons MpK90 (Ent.ok_cons MpK91 Ent.ok_nil)) (Tab.ok_cons (f := 20) (Ent.ok_cons MpK92 Ent.ok_nil) Tab.ok_nil))) MpT93
def MpE94 : Ent := ⟨11, (.cons (.sl 1 0 6 1 true) (.cons (.sl 8 0 6 1 true) .nil)), ⟨[MpO972, MpO973, MpO974, MpO975, MpO976, MpO977, MpO978, MpO979], 9⟩, (.bool true), ⟨[MpO972, MpO973, MpO974, MpO975, MpO976, MpO977, MpO978, MpO979], 225034⟩⟩
theorem MpT94 : Ent.check Tryz.prog [(13, [MpE20, MpE93]), (19, [MpE29]), (20, [MpE32]), (22, [MpE33, MpE47, MpE61, MpE74]), (48, [MpE42, MpE56, MpE83]), (105, [MpE43, MpE57, MpE70, MpE84]), (31, [MpE45, MpE59, MpE72, MpE86]), (82, [MpE46, MpE60, MpE87]), (23, [MpE69]), (34, [MpE73])] 990 MpE94 = true := by kernel_rfl
theorem MpK94 : MpE94.Ok Tryz.prog := Ent.ok_of mixed (Tab.ok_cons (f := 13) (Ent.ok_cons MpK20 (Ent.ok_cons MpK93 Ent.ok_nil)) (Tab.ok_cons (f := 19) (Ent.ok_cons MpK29 Ent.ok_nil) (Tab.ok_cons (f := 20) (Ent.ok_cons MpK32 Ent.ok_nil) (Tab.ok_cons (f := 22) (Ent.ok_cons MpK33 (Ent.ok_cons MpK47 (Ent.ok_cons MpK61 (Ent.ok_cons MpK74 Ent.ok_nil)))) (Tab.ok_cons (f := 48) (Ent.ok_cons MpK42 (Ent.ok_cons MpK56 (Ent.ok_cons MpK83 Ent.ok_nil))) (Tab.ok_cons (f := 105) (Ent.ok_cons MpK43 (Ent.ok_cons MpK57 (Ent.ok_cons MpK70 (Ent.ok_cons MpK84 Ent.ok_nil)))) (Tab.ok_cons (f := 31) (Ent.ok_cons MpK45 (Ent.ok_cons MpK59 (Ent.ok_cons MpK72 (Ent.ok_cons MpK86 Ent.ok_nil)))) (Tab.ok_cons (f := 82) (Ent.ok_cons MpK46 (Ent.ok_cons MpK60 (Ent.ok_cons MpK87 Ent.ok_nil))) (Tab.ok_cons (f := 23) (Ent.ok_cons MpK69 Ent.ok_nil) (Tab.ok_cons (f := 34) (Ent.ok_cons MpK73 Ent.ok_nil) Tab.ok_nil)))))))))) MpT94
def MpE95 : Ent := ⟨22, (.cons (.str 33 14500862277058862654651911154539025958177833887243615813892793645019620904824425) .nil), ⟨[], 225039⟩, (.tup (avs [(.sl 238191 0 19 4 false), (.agg (avs [(nu 0), (nu 0)]))])), ⟨[MpO980, MpO981, MpO982, MpO983, MpO984, MpO985, MpO986, MpO987, MpO988, MpO989, MpO990, MpO991, MpO992, MpO993, MpO994, MpO995, MpO996, MpO997, MpO998], 238192⟩⟩
theorem MpT95 : Ent.check Tryz.prog [] 990 MpE95 = true := by kernel_rfl
theorem MpK95 : MpE95.Ok Tryz.prog := Ent.ok_of mixed Tab.ok_nil MpT95
def MpE96 : Ent := ⟨222, (.cons (.ptr 238193 0) (.cons (nu 3) .nil)), ⟨[MpO980, MpO981, MpO982, MpO983, MpO984, MpO985, MpO986, MpO987, MpO988, MpO989, MpO990, MpO991, MpO992, MpO993, MpO994, MpO995, MpO996, MpO997, MpO998, MpO999], 238314⟩, (.agg (avs [(nu 3), (nu 0), (nu 0), (nu 0), (.str 0 0), (nu 0), (.sl 238605 0 2 8 true), (nu 28)])), ⟨[MpO980, MpO981, MpO982, MpO983, MpO984, MpO985, MpO986, MpO987, MpO988, MpO989, MpO990, MpO991, MpO992, MpO993, MpO994, MpO995, MpO996, MpO997, MpO998, MpO1000, MpO1001], 238610⟩⟩
theorem MpT96 : Ent.check Tryz.prog [] 990 MpE96 = true := by kernel_rfl
theorem MpK96 : MpE96.Ok Tryz.prog := Ent.ok_of mixed Tab.ok_nil MpT96
def MpE97 : Ent := ⟨87, (.cons (.ptr 238193 0) (.cons (nu 2) .nil)), ⟨[MpO980, MpO981, MpO982, MpO983, MpO984, MpO985, MpO986, MpO987, MpO988, MpO989, MpO990, MpO991, MpO992, MpO993, MpO994, MpO995, MpO996, MpO997, MpO998, MpO1002], 238269⟩, (.agg (avs [(nu 13), (.sl 238847 0 1 8 true), .nils, (nu 0), (nu 0), (nu 0), (.str 0 0), (nu 0), (nu 20)])), ⟨[MpO980, MpO981, MpO982, MpO983, MpO984, MpO985, MpO986, MpO987, MpO988, MpO989, MpO990, MpO991, MpO992, MpO993, MpO994, MpO995, MpO996, MpO997, MpO998, MpO1003, MpO1001, MpO1004], 238851⟩⟩
theorem MpT97 : Ent.check Tryz.prog [(222, [MpE96])] 990 MpE97 = true := by kernel_rfl
theorem MpK97 : MpE97.Ok Tryz.prog := Ent.ok_of mixed (Tab.ok_cons (f := 222) (Ent.ok_cons MpK96 Ent.ok_nil) Tab.ok_nil) MpT97
def MpE98 : Ent := ⟨19, (.cons (.str 33 14500862277058862654651911154539025958177833887243615813892793645019620904824425) .nil), ⟨[], 225036⟩, (.tup (avs [(.agg (avs [.nils, (.sl 238908 0 1 8 false)])), (.bool true)])), ⟨[MpO1005, MpO1006, MpO1007, MpO1008, MpO1009], 239179⟩⟩
theorem MpT98 : Ent.check Tryz.prog [(22, [MpE95]), (87, [MpE97])] 990 MpE98 = true := by kernel_rfl
theorem MpK98 : MpE98.Ok Tryz.prog := Ent.ok_of mixed (Tab.ok_cons (f := 22) (Ent.ok_cons MpK95 Ent.ok_nil) (Tab.ok_cons (f := 87) (Ent.ok_cons MpK97 Ent.ok_nil) Tab.ok_nil)) MpT98
def MpE99 : Ent := ⟨20, (.cons (.agg (avs [.nils, (.sl 238908 0 1 8 false)])) (.cons .nils (.cons (nu 2000) .nil))), ⟨[MpO1005, MpO1006, MpO1007, MpO1008, MpO1009], 239180⟩, (.tup (avs [(.agg (avs [(nu 3), (nu 0), .nils, (nu 0), (nu 0)])), (nu 0)])), ⟨[MpO1005, MpO1006, MpO1007, MpO1008, MpO1009], 239849⟩⟩
theorem MpT99 : Ent.check Tryz.prog [] 990 MpE99 = true := by kernel_rfl
theorem MpK99 : MpE99.Ok Tryz.prog := Ent.ok_of mixed Tab.ok_nil MpT99
end Go.Proofs.YtpepepkfjimoeaaGreat

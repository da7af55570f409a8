/- Calls that were proved one by one: what the evaluator says. -/
import Derived.Test.YtpepepkfjimoeaaGreatMnO
import Derived.Test.YtpepepkfjimoeaaGreatMnOx1
import Derived.Test.YtpepepkfjimoeaaGreatProg
import Derived.ProofKit
import Derived.Test.YtpepepkfjimoeaaGreatVh
import Derived.Test.YtpepepkfjimoeaaGreatMn0
import Derived.Test.YtpepepkfjimoeaaGreatMn1
import Derived.Test.YtpepepkfjimoeaaGreatMn2
import Derived.Test.YtpepepkfjimoeaaGreatMn3
import Derived.Test.YtpepepkfjimoeaaGreatMn4
import Derived.Test.YtpepepkfjimoeaaGreatMn5
import Derived.Test.YtpepepkfjimoeaaGreatMn6
import Derived.Test.YtpepepkfjimoeaaGreatMn7
import Derived.Test.YtpepepkfjimoeaaGreatMn8
import Derived.Test.YtpepepkfjimoeaaGreatMn9
import Derived.Test.YtpepepkfjimoeaaGreatMn10
import Derived.Test.YtpepepkfjimoeaaGreatMn11
import Derived.Test.YtpepepkfjimoeaaGreatMn13
import Derived.Test.YtpepepkfjimoeaaGreatMn14
namespace Go.Proofs.YtpepepkfjimoeaaGreat
open Go.Proofs.YtpepepkfjimoeaaGreat.Ev
set_option maxRecDepth 100000

def MnE141 : Ent := ⟨11, (.cons (.sl 1 0 17 1 true) (.cons (.sl 19 0 17 1 true) .nil)), ⟨[MnO1033, MnO1034, MnO1035, MnO1036, MnO1037, MnO1038, MnO1039, MnO1040, MnO1041, MnO1042, MnO1043, MnO1044, MnO1045, MnO1046, MnO1047, MnO1048, MnO1049, MnO1050, MnO1051], 20⟩, (.bool true), ⟨[MnO1033, MnO1034, MnO1035, MnO1036, MnO1037, MnO1038, MnO1039, MnO1040, MnO1041, MnO1042, MnO1043, MnO1044, MnO1045, MnO1046, MnO1047, MnO1048, MnO1049, MnO1050, MnO1051], 315815⟩⟩
theorem MnT141 : Ent.check Tryz.prog [(19, [MnE4, MnE10, MnE16, MnE22, MnE28, MnE55, MnE70, MnE77, MnE84, MnE101, MnE121]), (20, [MnE5, MnE11, MnE50, MnE65, MnE110, MnE123]), (31, [MnE17, MnE23, MnE29, MnE40, MnE56, MnE71, MnE78, MnE85, MnE102, MnE133]), (22, [MnE30, MnE42, MnE57, MnE103, MnE124]), (48, [MnE37, MnE62, MnE130]), (105, [MnE38, MnE131]), (82, [MnE41, MnE134]), (23, [MnE47]), (30, [MnE48, MnE63, MnE108]), (13, [MnE96, MnE140]), (171, [MnE105]), (87, [MnE107])] 990 MnE141 = true := by kernel_rfl
theorem MnK141 : MnE141.Ok Tryz.prog := Ent.ok_of mixed (Tab.ok_cons (f := 19) (Ent.ok_cons MnK4 (Ent.ok_cons MnK10 (Ent.ok_cons MnK16 (Ent.ok_cons MnK22 (Ent.ok_cons MnK28 (Ent.ok_cons MnK55 (Ent.ok_cons MnK70 (Ent.ok_cons MnK77 (Ent.ok_cons MnK84 (Ent.ok_cons MnK101 (Ent.ok_cons MnK121 Ent.ok_nil))))))))))) (Tab.ok_cons (f := 20) (Ent.ok_cons MnK5 (Ent.ok_cons MnK11 (Ent.ok_cons MnK50 (Ent.ok_cons MnK65 (Ent.ok_cons MnK110 (Ent.ok_cons MnK123 Ent.ok_nil)))))) (Tab.ok_cons (f := 31) (Ent.ok_cons MnK17 (Ent.ok_cons MnK23 (Ent.ok_cons MnK29 (Ent.ok_cons MnK40 (Ent.ok_cons MnK56 (Ent.ok_cons MnK71 (Ent.ok_cons MnK78 (Ent.ok_cons MnK85 (Ent.ok_cons MnK102 (Ent.ok_cons MnK133 Ent.ok_nil)))))))))) (Tab.ok_cons (f := 22) (Ent.ok_cons MnK30 (Ent.ok_cons MnK42 (Ent.ok_cons MnK57 (Ent.ok_cons MnK103 (Ent.ok_cons MnK124 Ent.ok_nil))))) (Tab.ok_cons (f := 48) (Ent.ok_cons MnK37 (Ent.ok_cons MnK62 (Ent.ok_cons MnK130 Ent.ok_nil))) (Tab.ok_cons (f := 105) (Ent.ok_cons MnK38 (Ent.ok_cons MnK131 Ent.ok_nil)) (Tab.ok_cons (f := 82) (Ent.ok_cons MnK41 (Ent.ok_cons MnK134 Ent.ok_nil)) (Tab.ok_cons (f := 23) (Ent.ok_cons MnK47 Ent.ok_nil) (Tab.ok_cons (f := 30) (Ent.ok_cons MnK48 (Ent.ok_cons MnK63 (Ent.ok_cons MnK108 Ent.ok_nil))) (Tab.ok_cons (f := 13) (Ent.ok_cons MnK96 (Ent.ok_cons MnK140 Ent.ok_nil)) (Tab.ok_cons (f := 171) (Ent.ok_cons MnK105 Ent.ok_nil) (Tab.ok_cons (f := 87) (Ent.ok_cons MnK107 Ent.ok_nil) Tab.ok_nil)))))))))))) MnT141
end Go.Proofs.YtpepepkfjimoeaaGreat

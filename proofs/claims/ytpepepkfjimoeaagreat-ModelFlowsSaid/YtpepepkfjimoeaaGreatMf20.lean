/- Calls that were proved one by one: what the evaluator says. -/
import Derived.Test.YtpepepkfjimoeaaGreatMfO
import Derived.Test.YtpepepkfjimoeaaGreatMfOx1
import Derived.Test.YtpepepkfjimoeaaGreatProg
import Derived.ProofKit
import Derived.Test.YtpepepkfjimoeaaGreatVh
import Derived.Test.YtpepepkfjimoeaaGreatMf0
import Derived.Test.YtpepepkfjimoeaaGreatMf1
import Derived.Test.YtpepepkfjimoeaaGreatMf2
import Derived.Test.YtpepepkfjimoeaaGreatMf3
import Derived.Test.YtpepepkfjimoeaaGreatMf4
import Derived.Test.YtpepepkfjimoeaaGreatMf6
import Derived.Test.YtpepepkfjimoeaaGreatMf7
import Derived.Test.YtpepepkfjimoeaaGreatMf8
import Derived.Test.YtpepepkfjimoeaaGreatMf9
import Derived.Test.YtpepepkfjimoeaaGreatMf10
import Derived.Test.YtpepepkfjimoeaaGreatMf11
import Derived.Test.YtpepepkfjimoeaaGreatMf13
import Derived.Test.YtpepepkfjimoeaaGreatMf14
import Derived.Test.YtpepepkfjimoeaaGreatMf15
import Derived.Test.YtpepepkfjimoeaaGreatMf16
import Derived.Test.YtpepepkfjimoeaaGreatMf17
import Derived.Test.YtpepepkfjimoeaaGreatMf19
namespace Go.Proofs.YtpepepkfjimoeaaGreat
open Go.Proofs.YtpepepkfjimoeaaGreat.Ev
set_option maxRecDepth 100000

def MfE168 : Ent := ⟨11, (.cons (.sl 1 0 15 1 true) (.cons (.sl 17 0 15 1 true) .nil)), ⟨[MfO1460, MfO1461, MfO1462, MfO1463, MfO1464, MfO1465, MfO1466, MfO1467, MfO1468, MfO1469, MfO1470, MfO1471, MfO1472, MfO1473, MfO1474, MfO1475, MfO1476], 18⟩, (.bool true), ⟨[MfO1460, MfO1461, MfO1462, MfO1463, MfO1464, MfO1465, MfO1466, MfO1467, MfO1468, MfO1469, MfO1470, MfO1471, MfO1472, MfO1473, MfO1474, MfO1475, MfO1476], 399859⟩⟩
theorem MfT168 : Ent.check Tryz.prog [(19, [MfE7, MfE16, MfE54, MfE75, MfE108, MfE158]), (20, [MfE10, MfE68, MfE98, MfE143]), (31, [MfE17, MfE40, MfE56, MfE76, MfE110, MfE160]), (134, [MfE18, MfE27, MfE41, MfE111, MfE161]), (22, [MfE19, MfE28, MfE57, MfE88, MfE133]), (23, [MfE24]), (30, [MfE25, MfE38, MfE96, MfE141]), (17, [MfE26]), (87, [MfE36, MfE65, MfE93, MfE95, MfE134, MfE140]), (105, [MfE66]), (13, [MfE87, MfE124, MfE132, MfE149, MfE167])] 990 MfE168 = true := by kernel_rfl
theorem MfK168 : MfE168.Ok Tryz.prog := Ent.ok_of mixed (Tab.ok_cons (f := 19) (Ent.ok_cons MfK7 (Ent.ok_cons MfK16 (Ent.ok_cons MfK54 (Ent.ok_cons MfK75 (Ent.ok_cons MfK108 (Ent.ok_cons MfK158 Ent.ok_nil)))))) (Tab.ok_cons (f := 20) (Ent.ok_cons MfK10 (Ent.ok_cons MfK68 (Ent.ok_cons MfK98 (Ent.ok_cons MfK143 Ent.ok_nil)))) (Tab.ok_cons (f := 31) (Ent.ok_cons MfK17 (Ent.ok_cons MfK40 (Ent.ok_cons MfK56 (Ent.ok_cons MfK76 (Ent.ok_cons MfK110 (Ent.ok_cons MfK160 Ent.ok_nil)))))) (Tab.ok_cons (f := 134) (Ent.ok_cons MfK18 (Ent.ok_cons MfK27 (Ent.ok_cons MfK41 (Ent.ok_cons MfK111 (Ent.ok_cons MfK161 Ent.ok_nil))))) (Tab.ok_cons (f := 22) (Ent.ok_cons MfK19 (Ent.ok_cons MfK28 (Ent.ok_cons MfK57 (Ent.ok_cons MfK88 (Ent.ok_cons MfK133 Ent.ok_nil))))) (Tab.ok_cons (f := 23) (Ent.ok_cons MfK24 Ent.ok_nil) (Tab.ok_cons (f := 30) (Ent.ok_cons MfK25 (Ent.ok_cons MfK38 (Ent.ok_cons MfK96 (Ent.ok_cons MfK141 Ent.ok_nil)))) (Tab.ok_cons (f := 17) (Ent.ok_cons MfK26 Ent.ok_nil) (Tab.ok_cons (f := 87) (Ent.ok_cons MfK36 (Ent.ok_cons MfK65 (Ent.ok_cons MfK93 (Ent.ok_cons MfK95 (Ent.ok_cons MfK134 (Ent.ok_cons MfK140 Ent.ok_nil)))))) (Tab.ok_cons (f := 105) (Ent.ok_cons MfK66 Ent.ok_nil) (Tab.ok_cons (f := 13) (Ent.ok_cons MfK87 (Ent.ok_cons MfK124 (Ent.ok_cons MfK132 (Ent.ok_cons MfK149 (Ent.ok_cons MfK167 Ent.ok_nil))))) Tab.ok_nil))))))))))) MfT168
end Go.Proofs.YtpepepkfjimoeaaGreat

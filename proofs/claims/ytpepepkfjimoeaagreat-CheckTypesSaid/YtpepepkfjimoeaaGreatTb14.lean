/- Calls that were proved one by one: what the evaluator says. -/
import Derived.Test.YtpepepkfjimoeaaGreatTbO
import Derived.Test.YtpepepkfjimoeaaGreatProg
import Derived.ProofKit
import Derived.Test.YtpepepkfjimoeaaGreatVh
import Derived.Test.YtpepepkfjimoeaaGreatTb0
import Derived.Test.YtpepepkfjimoeaaGreatTb1
import Derived.Test.YtpepepkfjimoeaaGreatTb2
import Derived.Test.YtpepepkfjimoeaaGreatTb3
import Derived.Test.YtpepepkfjimoeaaGreatTb4
import Derived.Test.YtpepepkfjimoeaaGreatTb5
import Derived.Test.YtpepepkfjimoeaaGreatTb6
import Derived.Test.YtpepepkfjimoeaaGreatTb7
import Derived.Test.YtpepepkfjimoeaaGreatTb8
import Derived.Test.YtpepepkfjimoeaaGreatTb9
import Derived.Test.YtpepepkfjimoeaaGreatTb10
import Derived.Test.YtpepepkfjimoeaaGreatTb11
import Derived.Test.YtpepepkfjimoeaaGreatTb12
import Derived.Test.YtpepepkfjimoeaaGreatTb13
namespace Go.Proofs.YtpepepkfjimoeaaGreat
open Go.Proofs.YtpepepkfjimoeaaGreat.Ev
set_option maxRecDepth 100000

def TbE137 : Ent := ⟨10, (.cons (.sl 0 0 33 1 true) (.cons (.sl 1 0 33 1 true) .nil)), ⟨[TbO869, TbO870], 2⟩, (.bool true), ⟨[TbO869, TbO870], 384532⟩⟩
theorem TbT137 : Ent.check Tryz.prog [(22, [TbE0, TbE1, TbE6, TbE11, TbE17, TbE23, TbE29, TbE34, TbE39, TbE43, TbE47, TbE55, TbE58, TbE62, TbE65, TbE84, TbE87, TbE89, TbE95, TbE100, TbE105, TbE109, TbE110, TbE111, TbE115, TbE122, TbE127, TbE130, TbE134]), (23, [TbE5, TbE10, TbE32, TbE37, TbE42, TbE46, TbE61, TbE88, TbE94, TbE98, TbE103, TbE108, TbE125, TbE133]), (48, [TbE15, TbE21, TbE27, TbE53, TbE57, TbE64, TbE67, TbE86, TbE117, TbE129, TbE136]), (17, [TbE16, TbE22, TbE28, TbE33, TbE38, TbE77, TbE83, TbE99, TbE104, TbE126]), (67, [TbE54]), (16, [TbE71, TbE76, TbE82, TbE119, TbE121]), (87, [TbE114])] 990 TbE137 = true := by kernel_rfl
theorem TbK137 : TbE137.Ok Tryz.prog := Ent.ok_of mixed (Tab.ok_cons (f := 22) (Ent.ok_cons TbK0 (Ent.ok_cons TbK1 (Ent.ok_cons TbK6 (Ent.ok_cons TbK11 (Ent.ok_cons TbK17 (Ent.ok_cons TbK23 (Ent.ok_cons TbK29 (Ent.ok_cons TbK34 (Ent.ok_cons TbK39 (Ent.ok_cons TbK43 (Ent.ok_cons TbK47 (Ent.ok_cons TbK55 (Ent.ok_cons TbK58 (Ent.ok_cons TbK62 (Ent.ok_cons TbK65 (Ent.ok_cons TbK84 (Ent.ok_cons TbK87 (Ent.ok_cons TbK89 (Ent.ok_cons TbK95 (Ent.ok_cons TbK100 (Ent.ok_cons TbK105 (Ent.ok_cons TbK109 (Ent.ok_cons TbK110 (Ent.ok_cons TbK111 (Ent.ok_cons TbK115 (Ent.ok_cons TbK122 (Ent.ok_cons TbK127 (Ent.ok_cons TbK130 (Ent.ok_cons TbK134 Ent.ok_nil))))))))))))))))))))))))))))) (Tab.ok_cons (f := 23) (Ent.ok_cons TbK5 (Ent.ok_cons TbK10 (Ent.ok_cons TbK32 (Ent.ok_cons TbK37 (Ent.ok_cons TbK42 (Ent.ok_cons TbK46 (Ent.ok_cons TbK61 (Ent.ok_cons TbK88 (Ent.ok_cons TbK94 (Ent.ok_cons TbK98 (Ent.ok_cons TbK103 (Ent.ok_cons TbK108 (Ent.ok_cons TbK125 (Ent.ok_cons TbK133 Ent.ok_nil)))))))))))))) (Tab.ok_cons (f := 48) (Ent.ok_cons TbK15 (Ent.ok_cons TbK21 (Ent.ok_cons TbK27 (Ent.ok_cons TbK53 (Ent.ok_cons TbK57 (Ent.ok_cons TbK64 (Ent.ok_cons TbK67 (Ent.ok_cons TbK86 (Ent.ok_cons TbK117 (Ent.ok_cons TbK129 (Ent.ok_cons TbK136 Ent.ok_nil))))))))))) (Tab.ok_cons (f := 17) (Ent.ok_cons TbK16 (Ent.ok_cons TbK22 (Ent.ok_cons TbK28 (Ent.ok_cons TbK33 (Ent.ok_cons TbK38 (Ent.ok_cons TbK77 (Ent.ok_cons TbK83 (Ent.ok_cons TbK99 (Ent.ok_cons TbK104 (Ent.ok_cons TbK126 Ent.ok_nil)))))))))) (Tab.ok_cons (f := 67) (Ent.ok_cons TbK54 Ent.ok_nil) (Tab.ok_cons (f := 16) (Ent.ok_cons TbK71 (Ent.ok_cons TbK76 (Ent.ok_cons TbK82 (Ent.ok_cons TbK119 (Ent.ok_cons TbK121 Ent.ok_nil))))) (Tab.ok_cons (f := 87) (Ent.ok_cons TbK114 Ent.ok_nil) Tab.ok_nil))))))) TbT137
end Go.Proofs.YtpepepkfjimoeaaGreat

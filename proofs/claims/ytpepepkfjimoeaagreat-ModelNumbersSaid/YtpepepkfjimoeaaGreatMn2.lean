/- Calls that were proved one by one: what the evaluator says. -/
import Derived.Test.YtpepepkfjimoeaaGreatMnO
import Derived.Test.YtpepepkfjimoeaaGreatMnOx1
import Derived.Test.YtpepepkfjimoeaaGreatProg
import Derived.ProofKit
import Derived.Test.YtpepepkfjimoeaaGreatVh
namespace Go.Proofs.YtpepepkfjimoeaaGreat
open Go.Proofs.YtpepepkfjimoeaaGreat.Ev
set_option maxRecDepth 100000

def MnE18 : Ent := ⟨22, (.cons (.str 38 15943765658610788317591391439818251573667536415397270374490131730600857498846590459392061033) .nil), ⟨[], 41259⟩, (.tup (avs [(.sl 53388 0 19 4 false), (.agg (avs [(nu 0), (nu 0)]))])), ⟨[MnO98, MnO99, MnO100, MnO101, MnO102, MnO103, MnO104, MnO105, MnO106, MnO107, MnO108, MnO109, MnO110, MnO111, MnO112, MnO113, MnO114, MnO115, MnO116], 53389⟩⟩
theorem MnT18 : Ent.check Tryz.prog [] 990 MnE18 = true := by kernel_rfl
theorem MnK18 : MnE18.Ok Tryz.prog := Ent.ok_of mixed Tab.ok_nil MnT18
def MnE19 : Ent := ⟨87, (.cons (.ptr 53390 0) (.cons (nu 2) .nil)), ⟨[MnO98, MnO99, MnO100, MnO101, MnO102, MnO103, MnO104, MnO105, MnO106, MnO107, MnO108, MnO109, MnO110, MnO111, MnO112, MnO113, MnO114, MnO115, MnO116, MnO117], 53424⟩, (.agg (avs [(nu 2), (.sl 53728 0 1 8 true), .nils, (nu 5), (nu 0), (nu 0), (.str 1 97), (nu 0), (nu 11)])), ⟨[MnO98, MnO99, MnO100, MnO101, MnO102, MnO103, MnO104, MnO105, MnO106, MnO107, MnO108, MnO109, MnO110, MnO111, MnO112, MnO113, MnO114, MnO115, MnO116, MnO118, MnO119], 53732⟩⟩
theorem MnT19 : Ent.check Tryz.prog [] 990 MnE19 = true := by kernel_rfl
theorem MnK19 : MnE19.Ok Tryz.prog := Ent.ok_of mixed Tab.ok_nil MnT19
def MnE20 : Ent := ⟨171, (.cons (.ptr 53390 0) (.cons (nu 4) (.cons (nu 3) .nil))), ⟨[MnO98, MnO99, MnO100, MnO101, MnO102, MnO103, MnO104, MnO105, MnO106, MnO107, MnO108, MnO109, MnO110, MnO111, MnO112, MnO113, MnO114, MnO115, MnO116, MnO120], 53803⟩, (.agg (avs [(nu 18), (nu 0), (nu 0), (nu 0), (.str 0 0), (nu 0), (.sl 53942 0 2 8 true), (nu 33)])), ⟨[MnO98, MnO99, MnO100, MnO101, MnO102, MnO103, MnO104, MnO105, MnO106, MnO107, MnO108, MnO109, MnO110, MnO111, MnO112, MnO113, MnO114, MnO115, MnO116, MnO121, MnO122], 54106⟩⟩
theorem MnT20 : Ent.check Tryz.prog [] 990 MnE20 = true := by kernel_rfl
theorem MnK20 : MnE20.Ok Tryz.prog := Ent.ok_of mixed Tab.ok_nil MnT20
def MnE21 : Ent := ⟨171, (.cons (.ptr 53390 0) (.cons (nu 3) (.cons (nu 1) .nil))), ⟨[MnO98, MnO99, MnO100, MnO101, MnO102, MnO103, MnO104, MnO105, MnO106, MnO107, MnO108, MnO109, MnO110, MnO111, MnO112, MnO113, MnO114, MnO115, MnO116, MnO118], 53754⟩, (.agg (avs [(nu 35), (nu 0), (nu 0), (nu 0), (.str 3 7632240), (nu 0), (.sl 54182 0 1 8 false), (nu 28)])), ⟨[MnO98, MnO99, MnO100, MnO101, MnO102, MnO103, MnO104, MnO105, MnO106, MnO107, MnO108, MnO109, MnO110, MnO111, MnO112, MnO113, MnO114, MnO115, MnO116, MnO123, MnO122, MnO124], 54399⟩⟩
theorem MnT21 : Ent.check Tryz.prog [(171, [MnE20])] 990 MnE21 = true := by kernel_rfl
theorem MnK21 : MnE21.Ok Tryz.prog := Ent.ok_of mixed (Tab.ok_cons (f := 171) (Ent.ok_cons MnK20 Ent.ok_nil) Tab.ok_nil) MnT21
def MnE22 : Ent := ⟨19, (.cons (.str 38 15943765658610788317591391439818251573667536415397270374490131730600857498846590459392061033) .nil), ⟨[], 41256⟩, (.tup (avs [(.agg (avs [.nils, (.sl 54500 0 1 8 false)])), (.bool true)])), ⟨[MnO125, MnO126, MnO127, MnO128, MnO129, MnO130, MnO131], 54812⟩⟩
theorem MnT22 : Ent.check Tryz.prog [(22, [MnE18]), (87, [MnE19]), (171, [MnE21])] 990 MnE22 = true := by kernel_rfl
theorem MnK22 : MnE22.Ok Tryz.prog := Ent.ok_of mixed (Tab.ok_cons (f := 22) (Ent.ok_cons MnK18 Ent.ok_nil) (Tab.ok_cons (f := 87) (Ent.ok_cons MnK19 Ent.ok_nil) (Tab.ok_cons (f := 171) (Ent.ok_cons MnK21 Ent.ok_nil) Tab.ok_nil))) MnT22
def MnE23 : Ent := ⟨31, (.cons (.agg (avs [.nils, (.sl 54500 0 1 8 false)])) .nil), ⟨[MnO125, MnO126, MnO127, MnO128, MnO129, MnO130, MnO131], 54815⟩, (.bool true), ⟨[MnO125, MnO126, MnO127, MnO128, MnO129, MnO130, MnO131], 55223⟩⟩
theorem MnT23 : Ent.check Tryz.prog [] 990 MnE23 = true := by kernel_rfl
theorem MnK23 : MnE23.Ok Tryz.prog := Ent.ok_of mixed Tab.ok_nil MnT23
def MnE24 : Ent := ⟨22, (.cons (.str 39 4081604008604361809303396208593472402858889322341701215869406223645484402232487434889949638249) .nil), ⟨[], 55693⟩, (.tup (avs [(.sl 67822 0 19 4 false), (.agg (avs [(nu 0), (nu 0)]))])), ⟨[MnO132, MnO133, MnO134, MnO135, MnO136, MnO137, MnO138, MnO139, MnO140, MnO141, MnO142, MnO143, MnO144, MnO145, MnO146, MnO147, MnO148, MnO149, MnO150], 67823⟩⟩
theorem MnT24 : Ent.check Tryz.prog [] 990 MnE24 = true := by kernel_rfl
theorem MnK24 : MnE24.Ok Tryz.prog := Ent.ok_of mixed Tab.ok_nil MnT24
def MnE25 : Ent := ⟨87, (.cons (.ptr 67824 0) (.cons (nu 2) .nil)), ⟨[MnO132, MnO133, MnO134, MnO135, MnO136, MnO137, MnO138, MnO139, MnO140, MnO141, MnO142, MnO143, MnO144, MnO145, MnO146, MnO147, MnO148, MnO149, MnO150, MnO151], 67858⟩, (.agg (avs [(nu 2), (.sl 68163 0 1 8 true), .nils, (nu 7), (nu 0), (nu 0), (.str 1 97), (nu 0), (nu 11)])), ⟨[MnO132, MnO133, MnO134, MnO135, MnO136, MnO137, MnO138, MnO139, MnO140, MnO141, MnO142, MnO143, MnO144, MnO145, MnO146, MnO147, MnO148, MnO149, MnO150, MnO152, MnO153], 68167⟩⟩
theorem MnT25 : Ent.check Tryz.prog [] 990 MnE25 = true := by kernel_rfl
theorem MnK25 : MnE25.Ok Tryz.prog := Ent.ok_of mixed Tab.ok_nil MnT25
end Go.Proofs.YtpepepkfjimoeaaGreat

/- Calls that were proved one by one: what the evaluator says. -/
import Derived.Test.YtpepepkfjimoeaaGreatTbO
import Derived.Test.YtpepepkfjimoeaaGreatProg
import Derived.ProofKit
import Derived.Test.YtpepepkfjimoeaaGreatVh
namespace Go.Proofs.YtpepepkfjimoeaaGreat
open Go.Proofs.YtpepepkfjimoeaaGreat.Ev
set_option maxRecDepth 100000

def TbE109 : Ent := ⟨22, (.cons (.str 13 9941636727381066475768829079404) .nil), ⟨[], 289986⟩, (.tup (avs [(.sl 295362 0 7 4 false), (.agg (avs [(nu 0), (nu 0)]))])), ⟨[TbO676, TbO677, TbO678, TbO679, TbO680, TbO681, TbO682], 295363⟩⟩
theorem TbT109 : Ent.check Tryz.prog [] 990 TbE109 = true := by kernel_rfl
theorem TbK109 : TbE109.Ok Tryz.prog := Ent.ok_of mixed Tab.ok_nil TbT109
def TbE110 : Ent := ⟨22, (.cons (.str 17 42699005762735119007463993972392260300393) .nil), ⟨[], 295520⟩, (.tup (avs [(.sl 300912 0 9 4 false), (.agg (avs [(nu 0), (nu 0)]))])), ⟨[TbO683, TbO684, TbO685, TbO686, TbO687, TbO688, TbO689, TbO690, TbO691], 300913⟩⟩
theorem TbT110 : Ent.check Tryz.prog [] 990 TbE110 = true := by kernel_rfl
theorem TbK110 : TbE110.Ok Tryz.prog := Ent.ok_of mixed Tab.ok_nil TbT110
def TbE111 : Ent := ⟨22, (.cons (.str 23 11994767782467809264152464312896721360717808536103710313) .nil), ⟨[], 301142⟩, (.tup (avs [(.sl 310268 0 13 4 false), (.agg (avs [(nu 0), (nu 0)]))])), ⟨[TbO692, TbO693, TbO694, TbO695, TbO696, TbO697, TbO698, TbO699, TbO700, TbO701, TbO702, TbO703, TbO704], 310269⟩⟩
theorem TbT111 : Ent.check Tryz.prog [] 990 TbE111 = true := by kernel_rfl
theorem TbK111 : TbE111.Ok Tryz.prog := Ent.ok_of mixed Tab.ok_nil TbT111
def TbE112 : Ent := ⟨171, (.cons (.ptr 310270 0) (.cons (nu 3) (.cons (nu 3) .nil))), ⟨[TbO692, TbO693, TbO694, TbO695, TbO696, TbO697, TbO698, TbO699, TbO700, TbO701, TbO702, TbO703, TbO704, TbO705], 310323⟩, (.agg (avs [(nu 1), (nu 0), (nu 0), (nu 0), (.str 0 0), (nu 0), .nils, (nu 18)])), ⟨[TbO692, TbO693, TbO694, TbO695, TbO696, TbO697, TbO698, TbO699, TbO700, TbO701, TbO702, TbO703, TbO704, TbO706], 310516⟩⟩
theorem TbT112 : Ent.check Tryz.prog [] 990 TbE112 = true := by kernel_rfl
theorem TbK112 : TbE112.Ok Tryz.prog := Ent.ok_of mixed Tab.ok_nil TbT112
def TbE113 : Ent := ⟨171, (.cons (.ptr 310270 0) (.cons (nu 4) (.cons (nu 3) .nil))), ⟨[TbO692, TbO693, TbO694, TbO695, TbO696, TbO697, TbO698, TbO699, TbO700, TbO701, TbO702, TbO703, TbO704, TbO707], 310618⟩, (.agg (avs [(nu 1), (nu 0), (nu 0), (nu 0), (.str 0 0), (nu 1), .nils, (nu 20)])), ⟨[TbO692, TbO693, TbO694, TbO695, TbO696, TbO697, TbO698, TbO699, TbO700, TbO701, TbO702, TbO703, TbO704, TbO708], 310811⟩⟩
theorem TbT113 : Ent.check Tryz.prog [] 990 TbE113 = true := by kernel_rfl
theorem TbK113 : TbE113.Ok Tryz.prog := Ent.ok_of mixed Tab.ok_nil TbT113
def TbE114 : Ent := ⟨87, (.cons (.ptr 310270 0) (.cons (nu 2) .nil)), ⟨[TbO692, TbO693, TbO694, TbO695, TbO696, TbO697, TbO698, TbO699, TbO700, TbO701, TbO702, TbO703, TbO704, TbO709], 310304⟩, (.agg (avs [(nu 8), (.sl 310596 0 1 8 true), (.sl 310891 0 1 9 true), (nu 0), (nu 0), (nu 0), (.str 0 0), (nu 0), (nu 11)])), ⟨[TbO692, TbO693, TbO694, TbO695, TbO696, TbO697, TbO698, TbO699, TbO700, TbO701, TbO702, TbO703, TbO704, TbO710, TbO711, TbO712, TbO713], 310892⟩⟩
theorem TbT114 : Ent.check Tryz.prog [(171, [TbE112, TbE113])] 990 TbE114 = true := by kernel_rfl
theorem TbK114 : TbE114.Ok Tryz.prog := Ent.ok_of mixed (Tab.ok_cons (f := 171) (Ent.ok_cons TbK112 (Ent.ok_cons TbK113 Ent.ok_nil)) Tab.ok_nil) TbT114
def TbE115 : Ent := ⟨22, (.cons (.str 28 13188374239276140685874673475426459234069522459337638483130741714537) .nil), ⟨[], 311109⟩, (.tup (avs [(.sl 322208 0 16 4 false), (.agg (avs [(nu 0), (nu 0)]))])), ⟨[TbO714, TbO715, TbO716, TbO717, TbO718, TbO719, TbO720, TbO721, TbO722, TbO723, TbO724, TbO725, TbO726, TbO727, TbO728, TbO729], 322209⟩⟩
theorem TbT115 : Ent.check Tryz.prog [] 990 TbE115 = true := by kernel_rfl
theorem TbK115 : TbE115.Ok Tryz.prog := Ent.ok_of mixed Tab.ok_nil TbT115
def TbE116 : Ent := ⟨171, (.cons (.ptr 322210 0) (.cons (nu 3) (.cons (nu 3) .nil))), ⟨[TbO714, TbO715, TbO716, TbO717, TbO718, TbO719, TbO720, TbO721, TbO722, TbO723, TbO724, TbO725, TbO726, TbO727, TbO728, TbO729, TbO730], 322300⟩, (.agg (avs [(nu 2), (nu 0), (nu 0), (nu 0), (.str 1 112), (nu 0), .nils, (nu 24)])), ⟨[TbO714, TbO715, TbO716, TbO717, TbO718, TbO719, TbO720, TbO721, TbO722, TbO723, TbO724, TbO725, TbO726, TbO727, TbO728, TbO729, TbO731], 322495⟩⟩
theorem TbT116 : Ent.check Tryz.prog [] 990 TbE116 = true := by kernel_rfl
theorem TbK116 : TbE116.Ok Tryz.prog := Ent.ok_of mixed Tab.ok_nil TbT116
def TbE117 : Ent := ⟨48, (.cons (.ptr 322210 0) (.cons (nu 1) .nil)), ⟨[TbO714, TbO715, TbO716, TbO717, TbO718, TbO719, TbO720, TbO721, TbO722, TbO723, TbO724, TbO725, TbO726, TbO727, TbO728, TbO729, TbO732], 322240⟩, (.sl 322584 0 2 9 false), ⟨[TbO714, TbO715, TbO716, TbO717, TbO718, TbO719, TbO720, TbO721, TbO722, TbO723, TbO724, TbO725, TbO726, TbO727, TbO728, TbO729, TbO733, TbO734, TbO735, TbO736, TbO737], 322589⟩⟩
theorem TbT117 : Ent.check Tryz.prog [(171, [TbE116])] 990 TbE117 = true := by kernel_rfl
theorem TbK117 : TbE117.Ok Tryz.prog := Ent.ok_of mixed (Tab.ok_cons (f := 171) (Ent.ok_cons TbK116 Ent.ok_nil) Tab.ok_nil) TbT117
end Go.Proofs.YtpepepkfjimoeaaGreat

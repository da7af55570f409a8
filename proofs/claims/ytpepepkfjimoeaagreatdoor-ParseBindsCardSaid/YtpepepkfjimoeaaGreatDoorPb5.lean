/- Calls that were proved one by one: what the evaluator says. -/
import Derived.Test.YtpepepkfjimoeaaGreatDoorPbO
import Derived.Test.YtpepepkfjimoeaaGreatDoorProg
import Derived.ProofKit
import Derived.Test.YtpepepkfjimoeaaGreatDoorVy
namespace Go.Proofs.YtpepepkfjimoeaaGreatDoor
open Go.Proofs.YtpepepkfjimoeaaGreatDoor.Ev
set_option maxRecDepth 100000

def PbE187 : Ent := ⟨15, (.cons (.str 20 PbS23) .nil), ⟨[], 51624⟩, (.tup (avs [(.sl 51727 0 15 4 false), (.agg (avs [(nu 0), (nu 0)]))])), ⟨[PbO297], 51728⟩⟩
theorem PbT187 : Ent.check Tryz.prog known [] 990 PbE187 = true := by kernel_rfl
theorem PbK187 {W : World} (hW : LibW W) : PbE187.Ok Tryz.prog (KG W) := Ent.ok_of mixed (known_ok hW) Tab.ok_nil PbT187
def PbE188 : Ent := ⟨161, (.cons (.ptr 51729 0) (.cons (nu 4) (.cons (nu 8) .nil))), ⟨[PbO297, PbO298], 52245⟩, (.agg (avs [(nu 17), (nu 0), (nu 0), (nu 0), (.str 0 0), (nu 0), (.sl 52448 0 2 8 true), (nu 13)])), ⟨[PbO297, PbO299, PbO300], 52660⟩⟩
theorem PbT188 : Ent.check Tryz.prog known [] 990 PbE188 = true := by kernel_rfl
theorem PbK188 {W : World} (hW : LibW W) : PbE188.Ok Tryz.prog (KG W) := Ent.ok_of mixed (known_ok hW) Tab.ok_nil PbT188
def PbE189 : Ent := ⟨161, (.cons (.ptr 51729 0) (.cons (nu 4) (.cons (nu 3) .nil))), ⟨[PbO297, PbO298], 52240⟩, (.agg (avs [(nu 17), (nu 0), (nu 0), (nu 0), (.str 0 0), (nu 0), (.sl 52448 0 2 8 true), (nu 13)])), ⟨[PbO297, PbO299, PbO300], 52820⟩⟩
theorem PbT189 : Ent.check Tryz.prog known [(161, [PbE188])] 990 PbE189 = true := by kernel_rfl
theorem PbK189 {W : World} (hW : LibW W) : PbE189.Ok Tryz.prog (KG W) := Ent.ok_of mixed (known_ok hW) (Tab.ok_cons (f := 161) (Ent.ok_cons (PbK188 hW) Ent.ok_nil) Tab.ok_nil) PbT189
def PbE190 : Ent := ⟨119, (.cons (.ptr 51729 0) (.cons (nu 4) .nil)), ⟨[PbO297, PbO298], 52235⟩, (.agg (avs [(nu 17), (nu 0), (nu 0), (nu 0), (.str 0 0), (nu 0), (.sl 52448 0 2 8 true), (nu 13)])), ⟨[PbO297, PbO299, PbO300], 52958⟩⟩
theorem PbT190 : Ent.check Tryz.prog known [(161, [PbE189])] 990 PbE190 = true := by kernel_rfl
theorem PbK190 {W : World} (hW : LibW W) : PbE190.Ok Tryz.prog (KG W) := Ent.ok_of mixed (known_ok hW) (Tab.ok_cons (f := 161) (Ent.ok_cons (PbK189 hW) Ent.ok_nil) Tab.ok_nil) PbT190
def PbE191 : Ent := ⟨161, (.cons (.ptr 51729 0) (.cons (nu 3) (.cons (nu 9) .nil))), ⟨[PbO297, PbO301], 52127⟩, (.agg (avs [(nu 16), (nu 0), (nu 0), (nu 0), (.str 0 0), (nu 0), (.sl 53095 0 2 8 true), (nu 16)])), ⟨[PbO297, PbO302, PbO300, PbO303], 53275⟩⟩
theorem PbT191 : Ent.check Tryz.prog known [(119, [PbE190])] 990 PbE191 = true := by kernel_rfl
theorem PbK191 {W : World} (hW : LibW W) : PbE191.Ok Tryz.prog (KG W) := Ent.ok_of mixed (known_ok hW) (Tab.ok_cons (f := 119) (Ent.ok_cons (PbK190 hW) Ent.ok_nil) Tab.ok_nil) PbT191
def PbE192 : Ent := ⟨161, (.cons (.ptr 51729 0) (.cons (nu 3) (.cons (nu 4) .nil))), ⟨[PbO297, PbO301], 52122⟩, (.agg (avs [(nu 16), (nu 0), (nu 0), (nu 0), (.str 0 0), (nu 0), (.sl 53095 0 2 8 true), (nu 16)])), ⟨[PbO297, PbO302, PbO300, PbO303], 53435⟩⟩
theorem PbT192 : Ent.check Tryz.prog known [(161, [PbE191])] 990 PbE192 = true := by kernel_rfl
theorem PbK192 {W : World} (hW : LibW W) : PbE192.Ok Tryz.prog (KG W) := Ent.ok_of mixed (known_ok hW) (Tab.ok_cons (f := 161) (Ent.ok_cons (PbK191 hW) Ent.ok_nil) Tab.ok_nil) PbT192
def PbE193 : Ent := ⟨119, (.cons (.ptr 51729 0) (.cons (nu 3) .nil)), ⟨[PbO297, PbO301], 52116⟩, (.agg (avs [(nu 16), (nu 0), (nu 0), (nu 0), (.str 0 0), (nu 0), (.sl 53095 0 2 8 true), (nu 16)])), ⟨[PbO297, PbO302, PbO300, PbO303], 53605⟩⟩
theorem PbT193 : Ent.check Tryz.prog known [(161, [PbE192])] 990 PbE193 = true := by kernel_rfl
theorem PbK193 {W : World} (hW : LibW W) : PbE193.Ok Tryz.prog (KG W) := Ent.ok_of mixed (known_ok hW) (Tab.ok_cons (f := 161) (Ent.ok_cons (PbK192 hW) Ent.ok_nil) Tab.ok_nil) PbT193
def PbE194 : Ent := ⟨5, (.cons (.str 20 PbS23) .nil), ⟨[], 51622⟩, (.tup (avs [(.agg (avs [.nils, (.sl 53686 0 1 8 false)])), (.agg (avs [(nu 0), (nu 0)]))])), ⟨[PbO300, PbO303, PbO304, PbO305, PbO306], 53699⟩⟩
theorem PbT194 : Ent.check Tryz.prog known [(15, [PbE187]), (119, [PbE193])] 990 PbE194 = true := by kernel_rfl
theorem PbK194 {W : World} (hW : LibW W) : PbE194.Ok Tryz.prog (KG W) := Ent.ok_of mixed (known_ok hW) (Tab.ok_cons (f := 15) (Ent.ok_cons (PbK187 hW) Ent.ok_nil) (Tab.ok_cons (f := 119) (Ent.ok_cons (PbK193 hW) Ent.ok_nil) Tab.ok_nil)) PbT194
def PbE195 : Ent := ⟨15, (.cons (.str 16 166461822378323787633021526911369899625) .nil), ⟨[], 53887⟩, (.tup (avs [(.sl 53956 0 11 4 false), (.agg (avs [(nu 0), (nu 0)]))])), ⟨[PbO307], 53957⟩⟩
theorem PbT195 : Ent.check Tryz.prog known [] 990 PbE195 = true := by kernel_rfl
theorem PbK195 {W : World} (hW : LibW W) : PbE195.Ok Tryz.prog (KG W) := Ent.ok_of mixed (known_ok hW) Tab.ok_nil PbT195
def PbE196 : Ent := ⟨161, (.cons (.ptr 53958 0) (.cons (nu 3) (.cons (nu 7) .nil))), ⟨[PbO307, PbO308], 54354⟩, (.agg (avs [(nu 6), (nu 0), (nu 0), (nu 0), (.str 0 0), (nu 0), (.sl 54598 0 1 8 true), (nu 11)])), ⟨[PbO307, PbO309, PbO310, PbO311], 54695⟩⟩
theorem PbT196 : Ent.check Tryz.prog known [] 990 PbE196 = true := by kernel_rfl
theorem PbK196 {W : World} (hW : LibW W) : PbE196.Ok Tryz.prog (KG W) := Ent.ok_of mixed (known_ok hW) Tab.ok_nil PbT196
def PbE197 : Ent := ⟨161, (.cons (.ptr 53958 0) (.cons (nu 3) (.cons (nu 2) .nil))), ⟨[PbO307, PbO308], 54349⟩, (.agg (avs [(nu 6), (nu 0), (nu 0), (nu 0), (.str 0 0), (nu 0), (.sl 54598 0 1 8 true), (nu 11)])), ⟨[PbO307, PbO309, PbO310, PbO311], 54855⟩⟩
theorem PbT197 : Ent.check Tryz.prog known [(161, [PbE196])] 990 PbE197 = true := by kernel_rfl
theorem PbK197 {W : World} (hW : LibW W) : PbE197.Ok Tryz.prog (KG W) := Ent.ok_of mixed (known_ok hW) (Tab.ok_cons (f := 161) (Ent.ok_cons (PbK196 hW) Ent.ok_nil) Tab.ok_nil) PbT197
def PbE198 : Ent := ⟨50, (.cons (.ptr 53958 0) (.cons (nu 1) .nil)), ⟨[PbO307, PbO312], 54218⟩, (.sl 54990 0 1 9 false), ⟨[PbO307, PbO313, PbO310, PbO311, PbO314, PbO315], 55031⟩⟩
theorem PbT198 : Ent.check Tryz.prog known [(161, [PbE197])] 990 PbE198 = true := by kernel_rfl
theorem PbK198 {W : World} (hW : LibW W) : PbE198.Ok Tryz.prog (KG W) := Ent.ok_of mixed (known_ok hW) (Tab.ok_cons (f := 161) (Ent.ok_cons (PbK197 hW) Ent.ok_nil) Tab.ok_nil) PbT198
def PbE199 : Ent := ⟨15, (.cons (.str 18 PbS24) .nil), ⟨[], 55059⟩, (.tup (avs [(.sl 55136 0 13 4 false), (.agg (avs [(nu 0), (nu 0)]))])), ⟨[PbO316], 55137⟩⟩
theorem PbT199 : Ent.check Tryz.prog known [] 990 PbE199 = true := by kernel_rfl
theorem PbK199 {W : World} (hW : LibW W) : PbE199.Ok Tryz.prog (KG W) := Ent.ok_of mixed (known_ok hW) Tab.ok_nil PbT199
def PbE200 : Ent := ⟨161, (.cons (.ptr 55138 0) (.cons (nu 5) (.cons (nu 7) .nil))), ⟨[PbO316, PbO317], 55700⟩, (.agg (avs [(nu 7), (nu 0), (nu 0), (nu 0), (.str 0 0), (nu 0), (.sl 55896 0 1 8 true), (nu 13)])), ⟨[PbO316, PbO318, PbO319], 55993⟩⟩
theorem PbT200 : Ent.check Tryz.prog known [] 990 PbE200 = true := by kernel_rfl
theorem PbK200 {W : World} (hW : LibW W) : PbE200.Ok Tryz.prog (KG W) := Ent.ok_of mixed (known_ok hW) Tab.ok_nil PbT200
def PbE201 : Ent := ⟨161, (.cons (.ptr 55138 0) (.cons (nu 5) (.cons (nu 2) .nil))), ⟨[PbO316, PbO317], 55695⟩, (.agg (avs [(nu 7), (nu 0), (nu 0), (nu 0), (.str 0 0), (nu 0), (.sl 55896 0 1 8 true), (nu 13)])), ⟨[PbO316, PbO318, PbO319], 56153⟩⟩
theorem PbT201 : Ent.check Tryz.prog known [(161, [PbE200])] 990 PbE201 = true := by kernel_rfl
theorem PbK201 {W : World} (hW : LibW W) : PbE201.Ok Tryz.prog (KG W) := Ent.ok_of mixed (known_ok hW) (Tab.ok_cons (f := 161) (Ent.ok_cons (PbK200 hW) Ent.ok_nil) Tab.ok_nil) PbT201
def PbE202 : Ent := ⟨188, (.cons (.ptr 55138 0) (.cons (nu 4) .nil)), ⟨[PbO316, PbO320], 55635⟩, (.agg (avs [(nu 7), (nu 0), (nu 0), (nu 0), (.str 0 0), (nu 0), (.sl 55896 0 1 8 true), (nu 13)])), ⟨[PbO316, PbO321, PbO319], 56341⟩⟩
theorem PbT202 : Ent.check Tryz.prog known [(161, [PbE201])] 990 PbE202 = true := by kernel_rfl
theorem PbK202 {W : World} (hW : LibW W) : PbE202.Ok Tryz.prog (KG W) := Ent.ok_of mixed (known_ok hW) (Tab.ok_cons (f := 161) (Ent.ok_cons (PbK201 hW) Ent.ok_nil) Tab.ok_nil) PbT202
def PbE203 : Ent := ⟨161, (.cons (.ptr 55138 0) (.cons (nu 3) (.cons (nu 6) .nil))), ⟨[PbO316, PbO322], 55533⟩, (.agg (avs [(nu 6), (nu 0), (nu 0), (nu 0), (.str 0 0), (nu 0), (.sl 56341 0 1 8 true), (nu 11)])), ⟨[PbO316, PbO321, PbO319, PbO323], 56470⟩⟩
theorem PbT203 : Ent.check Tryz.prog known [(188, [PbE202])] 990 PbE203 = true := by kernel_rfl
theorem PbK203 {W : World} (hW : LibW W) : PbE203.Ok Tryz.prog (KG W) := Ent.ok_of mixed (known_ok hW) (Tab.ok_cons (f := 188) (Ent.ok_cons (PbK202 hW) Ent.ok_nil) Tab.ok_nil) PbT203
def PbE204 : Ent := ⟨161, (.cons (.ptr 55138 0) (.cons (nu 3) (.cons (nu 1) .nil))), ⟨[PbO316, PbO322], 55528⟩, (.agg (avs [(nu 6), (nu 0), (nu 0), (nu 0), (.str 0 0), (nu 0), (.sl 56341 0 1 8 true), (nu 11)])), ⟨[PbO316, PbO321, PbO319, PbO323], 56630⟩⟩
theorem PbT204 : Ent.check Tryz.prog known [(161, [PbE203])] 990 PbE204 = true := by kernel_rfl
theorem PbK204 {W : World} (hW : LibW W) : PbE204.Ok Tryz.prog (KG W) := Ent.ok_of mixed (known_ok hW) (Tab.ok_cons (f := 161) (Ent.ok_cons (PbK203 hW) Ent.ok_nil) Tab.ok_nil) PbT204
def PbE205 : Ent := ⟨18, (.cons (.ptr 55138 0) (.cons (.ptr 55139 0) .nil)), ⟨[PbO316, PbO324, PbO325], 55152⟩, (.tup (avs [])), ⟨[PbO316, PbO326, PbO327, PbO319, PbO323, PbO328, PbO329, PbO330], 56786⟩⟩
theorem PbT205 : Ent.check Tryz.prog known [(161, [PbE204])] 990 PbE205 = true := by kernel_rfl
theorem PbK205 {W : World} (hW : LibW W) : PbE205.Ok Tryz.prog (KG W) := Ent.ok_of mixed (known_ok hW) (Tab.ok_cons (f := 161) (Ent.ok_cons (PbK204 hW) Ent.ok_nil) Tab.ok_nil) PbT205
def PbE206 : Ent := ⟨15, (.cons (.str 18 PbS25) .nil), ⟨[], 56942⟩, (.tup (avs [(.sl 57028 0 13 4 false), (.agg (avs [(nu 0), (nu 0)]))])), ⟨[PbO331], 57029⟩⟩
theorem PbT206 : Ent.check Tryz.prog known [] 990 PbE206 = true := by kernel_rfl
theorem PbK206 {W : World} (hW : LibW W) : PbE206.Ok Tryz.prog (KG W) := Ent.ok_of mixed (known_ok hW) Tab.ok_nil PbT206
def PbE207 : Ent := ⟨161, (.cons (.ptr 57030 0) (.cons (nu 5) (.cons (nu 6) .nil))), ⟨[PbO331, PbO332], 57628⟩, (.agg (avs [(nu 2), (nu 0), (nu 0), (nu 0), (.str 1 98), (nu 0), .nils, (nu 14)])), ⟨[PbO331, PbO333], 57906⟩⟩
theorem PbT207 : Ent.check Tryz.prog known [] 990 PbE207 = true := by kernel_rfl
theorem PbK207 {W : World} (hW : LibW W) : PbE207.Ok Tryz.prog (KG W) := Ent.ok_of mixed (known_ok hW) Tab.ok_nil PbT207
def PbE208 : Ent := ⟨161, (.cons (.ptr 57030 0) (.cons (nu 5) (.cons (nu 1) .nil))), ⟨[PbO331, PbO332], 57623⟩, (.agg (avs [(nu 2), (nu 0), (nu 0), (nu 0), (.str 1 98), (nu 0), .nils, (nu 14)])), ⟨[PbO331, PbO333], 58066⟩⟩
theorem PbT208 : Ent.check Tryz.prog known [(161, [PbE207])] 990 PbE208 = true := by kernel_rfl
theorem PbK208 {W : World} (hW : LibW W) : PbE208.Ok Tryz.prog (KG W) := Ent.ok_of mixed (known_ok hW) (Tab.ok_cons (f := 161) (Ent.ok_cons (PbK207 hW) Ent.ok_nil) Tab.ok_nil) PbT208
def PbE209 : Ent := ⟨178, (.cons (.ptr 57030 0) (.cons (nu 3) .nil)), ⟨[PbO331, PbO334], 57430⟩, (.agg (avs [(nu 5), (nu 0), (nu 0), (nu 0), (.str 0 0), (nu 0), (.sl 58219 0 1 8 true), (nu 11)])), ⟨[PbO331, PbO335, PbO336, PbO337], 58220⟩⟩
theorem PbT209 : Ent.check Tryz.prog known [(161, [PbE208])] 990 PbE209 = true := by kernel_rfl
theorem PbK209 {W : World} (hW : LibW W) : PbE209.Ok Tryz.prog (KG W) := Ent.ok_of mixed (known_ok hW) (Tab.ok_cons (f := 161) (Ent.ok_cons (PbK208 hW) Ent.ok_nil) Tab.ok_nil) PbT209
def PbE210 : Ent := ⟨161, (.cons (.ptr 57030 0) (.cons (nu 3) (.cons (nu 5) .nil))), ⟨[PbO331, PbO334], 57424⟩, (.agg (avs [(nu 5), (nu 0), (nu 0), (nu 0), (.str 0 0), (nu 0), (.sl 58219 0 1 8 true), (nu 11)])), ⟨[PbO331, PbO335, PbO336, PbO337], 58380⟩⟩
theorem PbT210 : Ent.check Tryz.prog known [(178, [PbE209])] 990 PbE210 = true := by kernel_rfl
theorem PbK210 {W : World} (hW : LibW W) : PbE210.Ok Tryz.prog (KG W) := Ent.ok_of mixed (known_ok hW) (Tab.ok_cons (f := 178) (Ent.ok_cons (PbK209 hW) Ent.ok_nil) Tab.ok_nil) PbT210
def PbE211 : Ent := ⟨161, (.cons (.ptr 57030 0) (.cons (nu 3) (.cons (nu 0) .nil))), ⟨[PbO331, PbO334], 57419⟩, (.agg (avs [(nu 5), (nu 0), (nu 0), (nu 0), (.str 0 0), (nu 0), (.sl 58219 0 1 8 true), (nu 11)])), ⟨[PbO331, PbO335, PbO336, PbO337], 58540⟩⟩
theorem PbT211 : Ent.check Tryz.prog known [(161, [PbE210])] 990 PbE211 = true := by kernel_rfl
theorem PbK211 {W : World} (hW : LibW W) : PbE211.Ok Tryz.prog (KG W) := Ent.ok_of mixed (known_ok hW) (Tab.ok_cons (f := 161) (Ent.ok_cons (PbK210 hW) Ent.ok_nil) Tab.ok_nil) PbT211
def PbE212 : Ent := ⟨18, (.cons (.ptr 57030 0) (.cons (.ptr 57031 0) .nil)), ⟨[PbO331, PbO338, PbO339], 57044⟩, (.tup (avs [])), ⟨[PbO331, PbO340, PbO341, PbO336, PbO337, PbO342, PbO343, PbO344], 58664⟩⟩
theorem PbT212 : Ent.check Tryz.prog known [(161, [PbE211])] 990 PbE212 = true := by kernel_rfl
theorem PbK212 {W : World} (hW : LibW W) : PbE212.Ok Tryz.prog (KG W) := Ent.ok_of mixed (known_ok hW) (Tab.ok_cons (f := 161) (Ent.ok_cons (PbK211 hW) Ent.ok_nil) Tab.ok_nil) PbT212
def PbE213 : Ent := ⟨15, (.cons (.str 20 PbS26) .nil), ⟨[], 58680⟩, (.tup (avs [(.sl 58774 0 15 4 false), (.agg (avs [(nu 0), (nu 0)]))])), ⟨[PbO345], 58775⟩⟩
theorem PbT213 : Ent.check Tryz.prog known [] 990 PbE213 = true := by kernel_rfl
theorem PbK213 {W : World} (hW : LibW W) : PbE213.Ok Tryz.prog (KG W) := Ent.ok_of mixed (known_ok hW) Tab.ok_nil PbT213
def PbE214 : Ent := ⟨161, (.cons (.ptr 58776 0) (.cons (nu 6) (.cons (nu 6) .nil))), ⟨[PbO345, PbO346], 59493⟩, (.agg (avs [(nu 2), (nu 0), (nu 0), (nu 0), (.str 1 98), (nu 0), .nils, (nu 15)])), ⟨[PbO345, PbO347], 59771⟩⟩
theorem PbT214 : Ent.check Tryz.prog known [] 990 PbE214 = true := by kernel_rfl
theorem PbK214 {W : World} (hW : LibW W) : PbE214.Ok Tryz.prog (KG W) := Ent.ok_of mixed (known_ok hW) Tab.ok_nil PbT214
def PbE215 : Ent := ⟨161, (.cons (.ptr 58776 0) (.cons (nu 6) (.cons (nu 1) .nil))), ⟨[PbO345, PbO346], 59488⟩, (.agg (avs [(nu 2), (nu 0), (nu 0), (nu 0), (.str 1 98), (nu 0), .nils, (nu 15)])), ⟨[PbO345, PbO347], 59931⟩⟩
theorem PbT215 : Ent.check Tryz.prog known [(161, [PbE214])] 990 PbE215 = true := by kernel_rfl
theorem PbK215 {W : World} (hW : LibW W) : PbE215.Ok Tryz.prog (KG W) := Ent.ok_of mixed (known_ok hW) (Tab.ok_cons (f := 161) (Ent.ok_cons (PbK214 hW) Ent.ok_nil) Tab.ok_nil) PbT215
def PbE216 : Ent := ⟨161, (.cons (.ptr 58776 0) (.cons (nu 5) (.cons (nu 9) .nil))), ⟨[PbO345, PbO348], 59340⟩, (.agg (avs [(nu 3), (nu 0), (nu 0), (nu 0), (.str 0 0), (nu 0), (.sl 59482 0 2 8 true), (nu 14)])), ⟨[PbO345, PbO349, PbO350], 60116⟩⟩
theorem PbT216 : Ent.check Tryz.prog known [(161, [PbE215])] 990 PbE216 = true := by kernel_rfl
theorem PbK216 {W : World} (hW : LibW W) : PbE216.Ok Tryz.prog (KG W) := Ent.ok_of mixed (known_ok hW) (Tab.ok_cons (f := 161) (Ent.ok_cons (PbK215 hW) Ent.ok_nil) Tab.ok_nil) PbT216
def PbE217 : Ent := ⟨161, (.cons (.ptr 58776 0) (.cons (nu 5) (.cons (nu 4) .nil))), ⟨[PbO345, PbO348], 59335⟩, (.agg (avs [(nu 3), (nu 0), (nu 0), (nu 0), (.str 0 0), (nu 0), (.sl 59482 0 2 8 true), (nu 14)])), ⟨[PbO345, PbO349, PbO350], 60276⟩⟩
theorem PbT217 : Ent.check Tryz.prog known [(161, [PbE216])] 990 PbE217 = true := by kernel_rfl
theorem PbK217 {W : World} (hW : LibW W) : PbE217.Ok Tryz.prog (KG W) := Ent.ok_of mixed (known_ok hW) (Tab.ok_cons (f := 161) (Ent.ok_cons (PbK216 hW) Ent.ok_nil) Tab.ok_nil) PbT217
def PbE218 : Ent := ⟨119, (.cons (.ptr 58776 0) (.cons (nu 5) .nil)), ⟨[PbO345, PbO348], 59329⟩, (.agg (avs [(nu 3), (nu 0), (nu 0), (nu 0), (.str 0 0), (nu 0), (.sl 59482 0 2 8 true), (nu 14)])), ⟨[PbO345, PbO349, PbO350], 60446⟩⟩
theorem PbT218 : Ent.check Tryz.prog known [(161, [PbE217])] 990 PbE218 = true := by kernel_rfl
theorem PbK218 {W : World} (hW : LibW W) : PbE218.Ok Tryz.prog (KG W) := Ent.ok_of mixed (known_ok hW) (Tab.ok_cons (f := 161) (Ent.ok_cons (PbK217 hW) Ent.ok_nil) Tab.ok_nil) PbT218
def PbE219 : Ent := ⟨161, (.cons (.ptr 58776 0) (.cons (nu 3) (.cons (nu 7) .nil))), ⟨[PbO345, PbO351], 59172⟩, (.agg (avs [(nu 5), (nu 0), (nu 0), (nu 0), (.str 0 0), (nu 0), (.sl 60528 0 1 8 true), (nu 11)])), ⟨[PbO345, PbO352, PbO350, PbO353], 60625⟩⟩
theorem PbT219 : Ent.check Tryz.prog known [(119, [PbE218])] 990 PbE219 = true := by kernel_rfl
theorem PbK219 {W : World} (hW : LibW W) : PbE219.Ok Tryz.prog (KG W) := Ent.ok_of mixed (known_ok hW) (Tab.ok_cons (f := 119) (Ent.ok_cons (PbK218 hW) Ent.ok_nil) Tab.ok_nil) PbT219
def PbE220 : Ent := ⟨161, (.cons (.ptr 58776 0) (.cons (nu 3) (.cons (nu 2) .nil))), ⟨[PbO345, PbO351], 59167⟩, (.agg (avs [(nu 5), (nu 0), (nu 0), (nu 0), (.str 0 0), (nu 0), (.sl 60528 0 1 8 true), (nu 11)])), ⟨[PbO345, PbO352, PbO350, PbO353], 60785⟩⟩
theorem PbT220 : Ent.check Tryz.prog known [(161, [PbE219])] 990 PbE220 = true := by kernel_rfl
theorem PbK220 {W : World} (hW : LibW W) : PbE220.Ok Tryz.prog (KG W) := Ent.ok_of mixed (known_ok hW) (Tab.ok_cons (f := 161) (Ent.ok_cons (PbK219 hW) Ent.ok_nil) Tab.ok_nil) PbT220
def PbE221 : Ent := ⟨50, (.cons (.ptr 58776 0) (.cons (nu 1) .nil)), ⟨[PbO345, PbO354], 59036⟩, (.sl 60920 0 1 9 false), ⟨[PbO345, PbO355, PbO350, PbO353, PbO356, PbO357], 60961⟩⟩
theorem PbT221 : Ent.check Tryz.prog known [(161, [PbE220])] 990 PbE221 = true := by kernel_rfl
theorem PbK221 {W : World} (hW : LibW W) : PbE221.Ok Tryz.prog (KG W) := Ent.ok_of mixed (known_ok hW) (Tab.ok_cons (f := 161) (Ent.ok_cons (PbK220 hW) Ent.ok_nil) Tab.ok_nil) PbT221
def PbE222 : Ent := ⟨15, (.cons (.str 21 PbS27) .nil), ⟨[], 61151⟩, (.tup (avs [(.sl 61250 0 14 4 false), (.agg (avs [(nu 0), (nu 0)]))])), ⟨[PbO358], 61251⟩⟩
theorem PbT222 : Ent.check Tryz.prog known [] 990 PbE222 = true := by kernel_rfl
theorem PbK222 {W : World} (hW : LibW W) : PbE222.Ok Tryz.prog (KG W) := Ent.ok_of mixed (known_ok hW) Tab.ok_nil PbT222
def PbE223 : Ent := ⟨161, (.cons (.ptr 61252 0) (.cons (nu 3) (.cons (nu 9) .nil))), ⟨[PbO358, PbO359], 61650⟩, (.agg (avs [(nu 9), (nu 5), (nu 0), (nu 0), (.str 0 0), (nu 0), (.sl 62044 0 1 8 true), (nu 11)])), ⟨[PbO358, PbO360, PbO361], 62078⟩⟩
theorem PbT223 : Ent.check Tryz.prog known [] 990 PbE223 = true := by kernel_rfl
theorem PbK223 {W : World} (hW : LibW W) : PbE223.Ok Tryz.prog (KG W) := Ent.ok_of mixed (known_ok hW) Tab.ok_nil PbT223
def PbE224 : Ent := ⟨161, (.cons (.ptr 61252 0) (.cons (nu 3) (.cons (nu 7) .nil))), ⟨[PbO358, PbO359], 61648⟩, (.agg (avs [(nu 18), (nu 0), (nu 0), (nu 0), (.str 0 0), (nu 0), (.sl 62133 0 2 8 true), (nu 17)])), ⟨[PbO358, PbO362, PbO361, PbO363], 62378⟩⟩
theorem PbT224 : Ent.check Tryz.prog known [(161, [PbE223])] 990 PbE224 = true := by kernel_rfl
theorem PbK224 {W : World} (hW : LibW W) : PbE224.Ok Tryz.prog (KG W) := Ent.ok_of mixed (known_ok hW) (Tab.ok_cons (f := 161) (Ent.ok_cons (PbK223 hW) Ent.ok_nil) Tab.ok_nil) PbT224
end Go.Proofs.YtpepepkfjimoeaaGreatDoor

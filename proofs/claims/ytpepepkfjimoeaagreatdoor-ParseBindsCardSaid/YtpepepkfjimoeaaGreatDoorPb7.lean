/- Calls that were proved one by one: what the evaluator says. -/
import Derived.Test.YtpepepkfjimoeaaGreatDoorPbO
import Derived.Test.YtpepepkfjimoeaaGreatDoorProg
import Derived.ProofKit
import Derived.Test.YtpepepkfjimoeaaGreatDoorVy
import Derived.Test.YtpepepkfjimoeaaGreatDoorPb6
namespace Go.Proofs.YtpepepkfjimoeaaGreatDoor
open Go.Proofs.YtpepepkfjimoeaaGreatDoor.Ev
set_option maxRecDepth 100000

def PbE260 : Ent := ⟨161, (.cons (.ptr 71776 0) (.cons (nu 4) (.cons (nu 6) .nil))), ⟨[PbO424, PbO427], 72630⟩, (.agg (avs [(nu 2), (nu 0), (nu 0), (nu 0), (.str 1 98), (nu 0), .nils, (nu 15)])), ⟨[PbO424, PbO428], 72908⟩⟩
theorem PbT260 : Ent.check Tryz.prog known [] 990 PbE260 = true := by kernel_rfl
theorem PbK260 {W : World} (hW : LibW W) : PbE260.Ok Tryz.prog (KG W) := Ent.ok_of mixed (known_ok hW) Tab.ok_nil PbT260
def PbE261 : Ent := ⟨161, (.cons (.ptr 71776 0) (.cons (nu 4) (.cons (nu 2) .nil))), ⟨[PbO424, PbO425], 72286⟩, (.agg (avs [(nu 26), (nu 0), (nu 0), (nu 0), (.str 0 0), (nu 0), (.sl 72627 0 2 8 true), (nu 13)])), ⟨[PbO424, PbO428, PbO429], 73035⟩⟩
theorem PbT261 : Ent.check Tryz.prog known [(161, [PbE259, PbE260])] 990 PbE261 = true := by kernel_rfl
theorem PbK261 {W : World} (hW : LibW W) : PbE261.Ok Tryz.prog (KG W) := Ent.ok_of mixed (known_ok hW) (Tab.ok_cons (f := 161) (Ent.ok_cons (PbK259 hW) (Ent.ok_cons (PbK260 hW) Ent.ok_nil)) Tab.ok_nil) PbT261
def PbE262 : Ent := ⟨188, (.cons (.ptr 71776 0) (.cons (nu 3) .nil)), ⟨[PbO424, PbO430], 72226⟩, (.agg (avs [(nu 26), (nu 0), (nu 0), (nu 0), (.str 0 0), (nu 0), (.sl 72627 0 2 8 true), (nu 13)])), ⟨[PbO424, PbO431, PbO429], 73223⟩⟩
theorem PbT262 : Ent.check Tryz.prog known [(161, [PbE261])] 990 PbE262 = true := by kernel_rfl
theorem PbK262 {W : World} (hW : LibW W) : PbE262.Ok Tryz.prog (KG W) := Ent.ok_of mixed (known_ok hW) (Tab.ok_cons (f := 161) (Ent.ok_cons (PbK261 hW) Ent.ok_nil) Tab.ok_nil) PbT262
def PbE263 : Ent := ⟨161, (.cons (.ptr 71776 0) (.cons (nu 3) (.cons (nu 5) .nil))), ⟨[PbO424, PbO430], 72170⟩, (.agg (avs [(nu 26), (nu 0), (nu 0), (nu 0), (.str 0 0), (nu 0), (.sl 72627 0 2 8 true), (nu 13)])), ⟨[PbO424, PbO431, PbO429], 73388⟩⟩
theorem PbT263 : Ent.check Tryz.prog known [(188, [PbE262])] 990 PbE263 = true := by kernel_rfl
theorem PbK263 {W : World} (hW : LibW W) : PbE263.Ok Tryz.prog (KG W) := Ent.ok_of mixed (known_ok hW) (Tab.ok_cons (f := 188) (Ent.ok_cons (PbK262 hW) Ent.ok_nil) Tab.ok_nil) PbT263
def PbE264 : Ent := ⟨161, (.cons (.ptr 71776 0) (.cons (nu 3) (.cons (nu 6) .nil))), ⟨[PbO424, PbO432], 73447⟩, (.agg (avs [(nu 2), (nu 0), (nu 0), (nu 0), (.str 1 99), (nu 0), .nils, (nu 18)])), ⟨[PbO424, PbO433], 73725⟩⟩
theorem PbT264 : Ent.check Tryz.prog known [] 990 PbE264 = true := by kernel_rfl
theorem PbK264 {W : World} (hW : LibW W) : PbE264.Ok Tryz.prog (KG W) := Ent.ok_of mixed (known_ok hW) Tab.ok_nil PbT264
def PbE265 : Ent := ⟨161, (.cons (.ptr 71776 0) (.cons (nu 3) (.cons (nu 2) .nil))), ⟨[PbO424, PbO430], 72167⟩, (.agg (avs [(nu 28), (nu 0), (nu 0), (nu 0), (.str 0 0), (nu 0), (.sl 73443 0 2 8 true), (nu 17)])), ⟨[PbO424, PbO433, PbO429, PbO434], 73852⟩⟩
theorem PbT265 : Ent.check Tryz.prog known [(161, [PbE263, PbE264])] 990 PbE265 = true := by kernel_rfl
theorem PbK265 {W : World} (hW : LibW W) : PbE265.Ok Tryz.prog (KG W) := Ent.ok_of mixed (known_ok hW) (Tab.ok_cons (f := 161) (Ent.ok_cons (PbK263 hW) (Ent.ok_cons (PbK264 hW) Ent.ok_nil)) Tab.ok_nil) PbT265
def PbE266 : Ent := ⟨50, (.cons (.ptr 71776 0) (.cons (nu 1) .nil)), ⟨[PbO424, PbO435], 72036⟩, (.sl 73987 0 1 9 false), ⟨[PbO424, PbO436, PbO429, PbO434, PbO437, PbO438], 74028⟩⟩
theorem PbT266 : Ent.check Tryz.prog known [(161, [PbE265])] 990 PbE266 = true := by kernel_rfl
theorem PbK266 {W : World} (hW : LibW W) : PbE266.Ok Tryz.prog (KG W) := Ent.ok_of mixed (known_ok hW) (Tab.ok_cons (f := 161) (Ent.ok_cons (PbK265 hW) Ent.ok_nil) Tab.ok_nil) PbT266
def PbE267 : Ent := ⟨15, (.cons (.str 21 PbS33) .nil), ⟨[], 74240⟩, (.tup (avs [(.sl 74352 0 15 4 false), (.agg (avs [(nu 0), (nu 0)]))])), ⟨[PbO439], 74353⟩⟩
theorem PbT267 : Ent.check Tryz.prog known [] 990 PbE267 = true := by kernel_rfl
theorem PbK267 {W : World} (hW : LibW W) : PbE267.Ok Tryz.prog (KG W) := Ent.ok_of mixed (known_ok hW) Tab.ok_nil PbT267
def PbE268 : Ent := ⟨161, (.cons (.ptr 74354 0) (.cons (nu 3) (.cons (nu 6) .nil))), ⟨[PbO439, PbO440], 74749⟩, (.agg (avs [(nu 2), (nu 0), (nu 0), (nu 0), (.str 1 97), (nu 0), .nils, (nu 11)])), ⟨[PbO439, PbO441], 75027⟩⟩
theorem PbT268 : Ent.check Tryz.prog known [] 990 PbE268 = true := by kernel_rfl
theorem PbK268 {W : World} (hW : LibW W) : PbE268.Ok Tryz.prog (KG W) := Ent.ok_of mixed (known_ok hW) Tab.ok_nil PbT268
def PbE269 : Ent := ⟨161, (.cons (.ptr 74354 0) (.cons (nu 3) (.cons (nu 1) .nil))), ⟨[PbO439, PbO440], 74744⟩, (.agg (avs [(nu 2), (nu 0), (nu 0), (nu 0), (.str 1 97), (nu 0), .nils, (nu 11)])), ⟨[PbO439, PbO441], 75187⟩⟩
theorem PbT269 : Ent.check Tryz.prog known [(161, [PbE268])] 990 PbE269 = true := by kernel_rfl
theorem PbK269 {W : World} (hW : LibW W) : PbE269.Ok Tryz.prog (KG W) := Ent.ok_of mixed (known_ok hW) (Tab.ok_cons (f := 161) (Ent.ok_cons (PbK268 hW) Ent.ok_nil) Tab.ok_nil) PbT269
def PbE270 : Ent := ⟨161, (.cons (.ptr 74354 0) (.cons (nu 4) (.cons (nu 6) .nil))), ⟨[PbO439, PbO442], 75294⟩, (.agg (avs [(nu 2), (nu 0), (nu 0), (nu 0), (.str 1 98), (nu 0), .nils, (nu 14)])), ⟨[PbO439, PbO443], 75572⟩⟩
theorem PbT270 : Ent.check Tryz.prog known [] 990 PbE270 = true := by kernel_rfl
theorem PbK270 {W : World} (hW : LibW W) : PbE270.Ok Tryz.prog (KG W) := Ent.ok_of mixed (known_ok hW) Tab.ok_nil PbT270
def PbE271 : Ent := ⟨161, (.cons (.ptr 74354 0) (.cons (nu 4) (.cons (nu 1) .nil))), ⟨[PbO439, PbO442], 75289⟩, (.agg (avs [(nu 2), (nu 0), (nu 0), (nu 0), (.str 1 98), (nu 0), .nils, (nu 14)])), ⟨[PbO439, PbO443], 75732⟩⟩
theorem PbT271 : Ent.check Tryz.prog known [(161, [PbE270])] 990 PbE271 = true := by kernel_rfl
theorem PbK271 {W : World} (hW : LibW W) : PbE271.Ok Tryz.prog (KG W) := Ent.ok_of mixed (known_ok hW) (Tab.ok_cons (f := 161) (Ent.ok_cons (PbK270 hW) Ent.ok_nil) Tab.ok_nil) PbT271
def PbE272 : Ent := ⟨161, (.cons (.ptr 74354 0) (.cons (nu 5) (.cons (nu 6) .nil))), ⟨[PbO439, PbO444], 75813⟩, (.agg (avs [(nu 2), (nu 0), (nu 0), (nu 0), (.str 1 99), (nu 0), .nils, (nu 16)])), ⟨[PbO439, PbO445], 76091⟩⟩
theorem PbT272 : Ent.check Tryz.prog known [] 990 PbE272 = true := by kernel_rfl
theorem PbK272 {W : World} (hW : LibW W) : PbE272.Ok Tryz.prog (KG W) := Ent.ok_of mixed (known_ok hW) Tab.ok_nil PbT272
def PbE273 : Ent := ⟨161, (.cons (.ptr 74354 0) (.cons (nu 5) (.cons (nu 1) .nil))), ⟨[PbO439, PbO444], 75808⟩, (.agg (avs [(nu 2), (nu 0), (nu 0), (nu 0), (.str 1 99), (nu 0), .nils, (nu 16)])), ⟨[PbO439, PbO445], 76251⟩⟩
theorem PbT273 : Ent.check Tryz.prog known [(161, [PbE272])] 990 PbE273 = true := by kernel_rfl
theorem PbK273 {W : World} (hW : LibW W) : PbE273.Ok Tryz.prog (KG W) := Ent.ok_of mixed (known_ok hW) (Tab.ok_cons (f := 161) (Ent.ok_cons (PbK272 hW) Ent.ok_nil) Tab.ok_nil) PbT273
def PbE274 : Ent := ⟨161, (.cons (.ptr 74354 0) (.cons (nu 5) (.cons (nu 6) .nil))), ⟨[PbO439, PbO446], 76360⟩, (.agg (avs [(nu 2), (nu 0), (nu 0), (nu 0), (.str 1 100), (nu 0), .nils, (nu 18)])), ⟨[PbO439, PbO447], 76638⟩⟩
theorem PbT274 : Ent.check Tryz.prog known [] 990 PbE274 = true := by kernel_rfl
theorem PbK274 {W : World} (hW : LibW W) : PbE274.Ok Tryz.prog (KG W) := Ent.ok_of mixed (known_ok hW) Tab.ok_nil PbT274
def PbE275 : Ent := ⟨161, (.cons (.ptr 74354 0) (.cons (nu 5) (.cons (nu 1) .nil))), ⟨[PbO439, PbO446], 76355⟩, (.agg (avs [(nu 2), (nu 0), (nu 0), (nu 0), (.str 1 100), (nu 0), .nils, (nu 18)])), ⟨[PbO439, PbO447], 76798⟩⟩
theorem PbT275 : Ent.check Tryz.prog known [(161, [PbE274])] 990 PbE275 = true := by kernel_rfl
theorem PbK275 {W : World} (hW : LibW W) : PbE275.Ok Tryz.prog (KG W) := Ent.ok_of mixed (known_ok hW) (Tab.ok_cons (f := 161) (Ent.ok_cons (PbK274 hW) Ent.ok_nil) Tab.ok_nil) PbT275
def PbE276 : Ent := ⟨140, (.cons (.ptr 74354 0) (.cons (nu 4) .nil)), ⟨[PbO439, PbO442], 75287⟩, (.agg (avs [(nu 33), (nu 0), (nu 0), (nu 0), (.str 0 0), (nu 0), (.sl 76858 0 3 8 true), (nu 15)])), ⟨[PbO439, PbO447, PbO448], 76859⟩⟩
theorem PbT276 : Ent.check Tryz.prog known [(161, [PbE271, PbE273, PbE275])] 990 PbE276 = true := by kernel_rfl
theorem PbK276 {W : World} (hW : LibW W) : PbE276.Ok Tryz.prog (KG W) := Ent.ok_of mixed (known_ok hW) (Tab.ok_cons (f := 161) (Ent.ok_cons (PbK271 hW) (Ent.ok_cons (PbK273 hW) (Ent.ok_cons (PbK275 hW) Ent.ok_nil))) Tab.ok_nil) PbT276
def PbE277 : Ent := ⟨50, (.cons (.ptr 74354 0) (.cons (nu 1) .nil)), ⟨[PbO439, PbO449], 74614⟩, (.sl 76903 0 1 9 false), ⟨[PbO439, PbO450, PbO451, PbO448, PbO452, PbO453], 76944⟩⟩
theorem PbT277 : Ent.check Tryz.prog known [(161, [PbE269]), (140, [PbE276])] 990 PbE277 = true := by kernel_rfl
theorem PbK277 {W : World} (hW : LibW W) : PbE277.Ok Tryz.prog (KG W) := Ent.ok_of mixed (known_ok hW) (Tab.ok_cons (f := 161) (Ent.ok_cons (PbK269 hW) Ent.ok_nil) (Tab.ok_cons (f := 140) (Ent.ok_cons (PbK276 hW) Ent.ok_nil) Tab.ok_nil)) PbT277
def PbE278 : Ent := ⟨15, (.cons (.str 23 PbS34) .nil), ⟨[], 76972⟩, (.tup (avs [(.sl 77092 0 17 4 false), (.agg (avs [(nu 0), (nu 0)]))])), ⟨[PbO454], 77093⟩⟩
theorem PbT278 : Ent.check Tryz.prog known [] 990 PbE278 = true := by kernel_rfl
theorem PbK278 {W : World} (hW : LibW W) : PbE278.Ok Tryz.prog (KG W) := Ent.ok_of mixed (known_ok hW) Tab.ok_nil PbT278
def PbE279 : Ent := ⟨161, (.cons (.ptr 77094 0) (.cons (nu 3) (.cons (nu 6) .nil))), ⟨[PbO454, PbO455], 77489⟩, (.agg (avs [(nu 2), (nu 0), (nu 0), (nu 0), (.str 1 97), (nu 0), .nils, (nu 11)])), ⟨[PbO454, PbO456], 77767⟩⟩
theorem PbT279 : Ent.check Tryz.prog known [] 990 PbE279 = true := by kernel_rfl
theorem PbK279 {W : World} (hW : LibW W) : PbE279.Ok Tryz.prog (KG W) := Ent.ok_of mixed (known_ok hW) Tab.ok_nil PbT279
def PbE280 : Ent := ⟨161, (.cons (.ptr 77094 0) (.cons (nu 3) (.cons (nu 1) .nil))), ⟨[PbO454, PbO455], 77484⟩, (.agg (avs [(nu 2), (nu 0), (nu 0), (nu 0), (.str 1 97), (nu 0), .nils, (nu 11)])), ⟨[PbO454, PbO456], 77927⟩⟩
theorem PbT280 : Ent.check Tryz.prog known [(161, [PbE279])] 990 PbE280 = true := by kernel_rfl
theorem PbK280 {W : World} (hW : LibW W) : PbE280.Ok Tryz.prog (KG W) := Ent.ok_of mixed (known_ok hW) (Tab.ok_cons (f := 161) (Ent.ok_cons (PbK279 hW) Ent.ok_nil) Tab.ok_nil) PbT280
def PbE281 : Ent := ⟨161, (.cons (.ptr 77094 0) (.cons (nu 5) (.cons (nu 6) .nil))), ⟨[PbO454, PbO457], 78153⟩, (.agg (avs [(nu 2), (nu 0), (nu 0), (nu 0), (.str 1 98), (nu 0), .nils, (nu 15)])), ⟨[PbO454, PbO458], 78431⟩⟩
theorem PbT281 : Ent.check Tryz.prog known [] 990 PbE281 = true := by kernel_rfl
theorem PbK281 {W : World} (hW : LibW W) : PbE281.Ok Tryz.prog (KG W) := Ent.ok_of mixed (known_ok hW) Tab.ok_nil PbT281
def PbE282 : Ent := ⟨161, (.cons (.ptr 77094 0) (.cons (nu 5) (.cons (nu 1) .nil))), ⟨[PbO454, PbO457], 78148⟩, (.agg (avs [(nu 2), (nu 0), (nu 0), (nu 0), (.str 1 98), (nu 0), .nils, (nu 15)])), ⟨[PbO454, PbO458], 78591⟩⟩
theorem PbT282 : Ent.check Tryz.prog known [(161, [PbE281])] 990 PbE282 = true := by kernel_rfl
theorem PbK282 {W : World} (hW : LibW W) : PbE282.Ok Tryz.prog (KG W) := Ent.ok_of mixed (known_ok hW) (Tab.ok_cons (f := 161) (Ent.ok_cons (PbK281 hW) Ent.ok_nil) Tab.ok_nil) PbT282
def PbE283 : Ent := ⟨161, (.cons (.ptr 77094 0) (.cons (nu 6) (.cons (nu 6) .nil))), ⟨[PbO454, PbO459], 78672⟩, (.agg (avs [(nu 2), (nu 0), (nu 0), (nu 0), (.str 1 99), (nu 0), .nils, (nu 17)])), ⟨[PbO454, PbO460], 78950⟩⟩
theorem PbT283 : Ent.check Tryz.prog known [] 990 PbE283 = true := by kernel_rfl
theorem PbK283 {W : World} (hW : LibW W) : PbE283.Ok Tryz.prog (KG W) := Ent.ok_of mixed (known_ok hW) Tab.ok_nil PbT283
def PbE284 : Ent := ⟨161, (.cons (.ptr 77094 0) (.cons (nu 6) (.cons (nu 1) .nil))), ⟨[PbO454, PbO459], 78667⟩, (.agg (avs [(nu 2), (nu 0), (nu 0), (nu 0), (.str 1 99), (nu 0), .nils, (nu 17)])), ⟨[PbO454, PbO460], 79110⟩⟩
theorem PbT284 : Ent.check Tryz.prog known [(161, [PbE283])] 990 PbE284 = true := by kernel_rfl
theorem PbK284 {W : World} (hW : LibW W) : PbE284.Ok Tryz.prog (KG W) := Ent.ok_of mixed (known_ok hW) (Tab.ok_cons (f := 161) (Ent.ok_cons (PbK283 hW) Ent.ok_nil) Tab.ok_nil) PbT284
def PbE285 : Ent := ⟨161, (.cons (.ptr 77094 0) (.cons (nu 6) (.cons (nu 6) .nil))), ⟨[PbO454, PbO461], 79219⟩, (.agg (avs [(nu 2), (nu 0), (nu 0), (nu 0), (.str 1 100), (nu 0), .nils, (nu 19)])), ⟨[PbO454, PbO462], 79497⟩⟩
theorem PbT285 : Ent.check Tryz.prog known [] 990 PbE285 = true := by kernel_rfl
theorem PbK285 {W : World} (hW : LibW W) : PbE285.Ok Tryz.prog (KG W) := Ent.ok_of mixed (known_ok hW) Tab.ok_nil PbT285
def PbE286 : Ent := ⟨161, (.cons (.ptr 77094 0) (.cons (nu 6) (.cons (nu 1) .nil))), ⟨[PbO454, PbO461], 79214⟩, (.agg (avs [(nu 2), (nu 0), (nu 0), (nu 0), (.str 1 100), (nu 0), .nils, (nu 19)])), ⟨[PbO454, PbO462], 79657⟩⟩
theorem PbT286 : Ent.check Tryz.prog known [(161, [PbE285])] 990 PbE286 = true := by kernel_rfl
theorem PbK286 {W : World} (hW : LibW W) : PbE286.Ok Tryz.prog (KG W) := Ent.ok_of mixed (known_ok hW) (Tab.ok_cons (f := 161) (Ent.ok_cons (PbK285 hW) Ent.ok_nil) Tab.ok_nil) PbT286
def PbE287 : Ent := ⟨140, (.cons (.ptr 77094 0) (.cons (nu 5) .nil)), ⟨[PbO454, PbO457], 78146⟩, (.agg (avs [(nu 33), (nu 0), (nu 0), (nu 0), (.str 0 0), (nu 0), (.sl 79717 0 3 8 true), (nu 16)])), ⟨[PbO454, PbO462, PbO463], 79718⟩⟩
theorem PbT287 : Ent.check Tryz.prog known [(161, [PbE282, PbE284, PbE286])] 990 PbE287 = true := by kernel_rfl
theorem PbK287 {W : World} (hW : LibW W) : PbE287.Ok Tryz.prog (KG W) := Ent.ok_of mixed (known_ok hW) (Tab.ok_cons (f := 161) (Ent.ok_cons (PbK282 hW) (Ent.ok_cons (PbK284 hW) (Ent.ok_cons (PbK286 hW) Ent.ok_nil))) Tab.ok_nil) PbT287
def PbE288 : Ent := ⟨161, (.cons (.ptr 77094 0) (.cons (nu 4) (.cons (nu 8) .nil))), ⟨[PbO454, PbO464], 78036⟩, (.agg (avs [(nu 33), (nu 0), (nu 0), (nu 0), (.str 0 0), (nu 0), (.sl 79717 0 3 8 true), (nu 16)])), ⟨[PbO454, PbO465, PbO463], 79879⟩⟩
theorem PbT288 : Ent.check Tryz.prog known [(140, [PbE287])] 990 PbE288 = true := by kernel_rfl
theorem PbK288 {W : World} (hW : LibW W) : PbE288.Ok Tryz.prog (KG W) := Ent.ok_of mixed (known_ok hW) (Tab.ok_cons (f := 140) (Ent.ok_cons (PbK287 hW) Ent.ok_nil) Tab.ok_nil) PbT288
def PbE289 : Ent := ⟨161, (.cons (.ptr 77094 0) (.cons (nu 4) (.cons (nu 3) .nil))), ⟨[PbO454, PbO464], 78031⟩, (.agg (avs [(nu 33), (nu 0), (nu 0), (nu 0), (.str 0 0), (nu 0), (.sl 79717 0 3 8 true), (nu 16)])), ⟨[PbO454, PbO465, PbO463], 80039⟩⟩
theorem PbT289 : Ent.check Tryz.prog known [(161, [PbE288])] 990 PbE289 = true := by kernel_rfl
theorem PbK289 {W : World} (hW : LibW W) : PbE289.Ok Tryz.prog (KG W) := Ent.ok_of mixed (known_ok hW) (Tab.ok_cons (f := 161) (Ent.ok_cons (PbK288 hW) Ent.ok_nil) Tab.ok_nil) PbT289
def PbE290 : Ent := ⟨119, (.cons (.ptr 77094 0) (.cons (nu 4) .nil)), ⟨[PbO454, PbO464], 78026⟩, (.agg (avs [(nu 33), (nu 0), (nu 0), (nu 0), (.str 0 0), (nu 0), (.sl 79717 0 3 8 true), (nu 16)])), ⟨[PbO454, PbO465, PbO463], 80177⟩⟩
theorem PbT290 : Ent.check Tryz.prog known [(161, [PbE289])] 990 PbE290 = true := by kernel_rfl
theorem PbK290 {W : World} (hW : LibW W) : PbE290.Ok Tryz.prog (KG W) := Ent.ok_of mixed (known_ok hW) (Tab.ok_cons (f := 161) (Ent.ok_cons (PbK289 hW) Ent.ok_nil) Tab.ok_nil) PbT290
def PbE291 : Ent := ⟨18, (.cons (.ptr 77094 0) (.cons (.ptr 77095 0) .nil)), ⟨[PbO454, PbO466, PbO467], 77108⟩, (.tup (avs [])), ⟨[PbO454, PbO468, PbO469, PbO470, PbO463, PbO471, PbO472, PbO473], 80259⟩⟩
theorem PbT291 : Ent.check Tryz.prog known [(161, [PbE280]), (119, [PbE290])] 990 PbE291 = true := by kernel_rfl
theorem PbK291 {W : World} (hW : LibW W) : PbE291.Ok Tryz.prog (KG W) := Ent.ok_of mixed (known_ok hW) (Tab.ok_cons (f := 161) (Ent.ok_cons (PbK280 hW) Ent.ok_nil) (Tab.ok_cons (f := 119) (Ent.ok_cons (PbK290 hW) Ent.ok_nil) Tab.ok_nil)) PbT291
def PbE292 : Ent := ⟨15, (.cons (.str 21 PbS35) .nil), ⟨[], 80481⟩, (.tup (avs [(.sl 80547 0 10 4 false), (.agg (avs [(nu 0), (nu 0)]))])), ⟨[PbO474], 80548⟩⟩
theorem PbT292 : Ent.check Tryz.prog known [] 990 PbE292 = true := by kernel_rfl
theorem PbK292 {W : World} (hW : LibW W) : PbE292.Ok Tryz.prog (KG W) := Ent.ok_of mixed (known_ok hW) Tab.ok_nil PbT292
def PbE293 : Ent := ⟨161, (.cons (.ptr 80549 0) (.cons (nu 3) (.cons (nu 6) .nil))), ⟨[PbO474, PbO475], 81106⟩, (.agg (avs [(nu 1), (nu 0), (nu 0), (nu 0), (.str 0 0), (nu 1), .nils, (nu 18)])), ⟨[PbO474, PbO476], 81371⟩⟩
theorem PbT293 : Ent.check Tryz.prog known [] 990 PbE293 = true := by kernel_rfl
theorem PbK293 {W : World} (hW : LibW W) : PbE293.Ok Tryz.prog (KG W) := Ent.ok_of mixed (known_ok hW) Tab.ok_nil PbT293
def PbE294 : Ent := ⟨161, (.cons (.ptr 80549 0) (.cons (nu 3) (.cons (nu 1) .nil))), ⟨[PbO474, PbO475], 81101⟩, (.agg (avs [(nu 1), (nu 0), (nu 0), (nu 0), (.str 0 0), (nu 1), .nils, (nu 18)])), ⟨[PbO474, PbO476], 81531⟩⟩
theorem PbT294 : Ent.check Tryz.prog known [(161, [PbE293])] 990 PbE294 = true := by kernel_rfl
theorem PbK294 {W : World} (hW : LibW W) : PbE294.Ok Tryz.prog (KG W) := Ent.ok_of mixed (known_ok hW) (Tab.ok_cons (f := 161) (Ent.ok_cons (PbK293 hW) Ent.ok_nil) Tab.ok_nil) PbT294
def PbE295 : Ent := ⟨118, (.cons (.ptr 80549 0) (.cons (.ptr 80875 0) (.cons (nu 2) .nil))), ⟨[PbO474, PbO477, PbO478], 80928⟩, (.tup (avs [])), ⟨[PbO474, PbO479, PbO480, PbO481], 81633⟩⟩
theorem PbT295 : Ent.check Tryz.prog known [(161, [PbE294])] 990 PbE295 = true := by kernel_rfl
theorem PbK295 {W : World} (hW : LibW W) : PbE295.Ok Tryz.prog (KG W) := Ent.ok_of mixed (known_ok hW) (Tab.ok_cons (f := 161) (Ent.ok_cons (PbK294 hW) Ent.ok_nil) Tab.ok_nil) PbT295
def PbE296 : Ent := ⟨5, (.cons (.str 21 PbS35) .nil), ⟨[], 80479⟩, (.tup (avs [(.agg (avs [.nils, (.sl 81686 0 1 8 false)])), (.agg (avs [(nu 0), (nu 0)]))])), ⟨[PbO481, PbO482, PbO483], 81699⟩⟩
theorem PbT296 : Ent.check Tryz.prog known [(15, [PbE292]), (118, [PbE295])] 990 PbE296 = true := by kernel_rfl
theorem PbK296 {W : World} (hW : LibW W) : PbE296.Ok Tryz.prog (KG W) := Ent.ok_of mixed (known_ok hW) (Tab.ok_cons (f := 15) (Ent.ok_cons (PbK292 hW) Ent.ok_nil) (Tab.ok_cons (f := 118) (Ent.ok_cons (PbK295 hW) Ent.ok_nil) Tab.ok_nil)) PbT296
end Go.Proofs.YtpepepkfjimoeaaGreatDoor

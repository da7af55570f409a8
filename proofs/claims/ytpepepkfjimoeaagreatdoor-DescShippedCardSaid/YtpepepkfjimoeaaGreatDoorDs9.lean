/- Calls that were proved one by one: what the evaluator says. -/
import Derived.Test.YtpepepkfjimoeaaGreatDoorDsO
import Derived.Test.YtpepepkfjimoeaaGreatDoorProg
import Derived.ProofKit
import Derived.Test.YtpepepkfjimoeaaGreatDoorVy
namespace Go.Proofs.YtpepepkfjimoeaaGreatDoor
open Go.Proofs.YtpepepkfjimoeaaGreatDoor.Ev
set_option maxRecDepth 100000

def DsE274 : Ent := ⟨36, (.cons (.str 3 7629158) .nil), ⟨[], 39614⟩, (.tup (avs [(.agg (avs [(nu 2), (nu 1), (nu 0), .nils, (nu 0), (.str 3 7629158)])), (.bool true)])), ⟨[], 39915⟩⟩
theorem DsT274 : Ent.check Tryz.prog known [] 990 DsE274 = true := by kernel_rfl
theorem DsK274 {W : World} (hW : LibW W) : DsE274.Ok Tryz.prog (KG W) := Ent.ok_of mixed (known_ok hW) Tab.ok_nil DsT274
def DsE275 : Ent := ⟨36, (.cons (.str 3 7958113) .nil), ⟨[], 39931⟩, (.tup (avs [(.agg (avs [(nu 1), (nu 1), (nu 0), .nils, (nu 0), (.str 3 7958113)])), (.bool true)])), ⟨[], 40232⟩⟩
theorem DsT275 : Ent.check Tryz.prog known [] 990 DsE275 = true := by kernel_rfl
theorem DsK275 {W : World} (hW : LibW W) : DsE275.Ok Tryz.prog (KG W) := Ent.ok_of mixed (known_ok hW) Tab.ok_nil DsT275
def DsE276 : Ent := ⟨36, (.cons (.str 2 28789) .nil), ⟨[], 40248⟩, (.tup (avs [(.agg (avs [(nu 1), (nu 0), (nu 2), .nils, (nu 0), (.str 2 28789)])), (.bool true)])), ⟨[], 40549⟩⟩
theorem DsT276 : Ent.check Tryz.prog known [] 990 DsE276 = true := by kernel_rfl
theorem DsK276 {W : World} (hW : LibW W) : DsE276.Ok Tryz.prog (KG W) := Ent.ok_of mixed (known_ok hW) Tab.ok_nil DsT276
def DsE277 : Ent := ⟨36, (.cons (.str 3 7368052) .nil), ⟨[], 40565⟩, (.tup (avs [(.agg (avs [(nu 0), (nu 2), (nu 0), .nils, (nu 0), (.str 3 7368052)])), (.bool true)])), ⟨[], 40866⟩⟩
theorem DsT277 : Ent.check Tryz.prog known [] 990 DsE277 = true := by kernel_rfl
theorem DsK277 {W : World} (hW : LibW W) : DsE277.Ok Tryz.prog (KG W) := Ent.ok_of mixed (known_ok hW) Tab.ok_nil DsT277
def DsE278 : Ent := ⟨36, (.cons (.str 3 6516588) .nil), ⟨[], 40882⟩, (.tup (avs [(.agg (avs [(nu 0), (nu 3), (nu 0), .nils, (nu 0), (.str 3 6516588)])), (.bool true)])), ⟨[], 41183⟩⟩
theorem DsT278 : Ent.check Tryz.prog known [] 990 DsE278 = true := by kernel_rfl
theorem DsK278 {W : World} (hW : LibW W) : DsE278.Ok Tryz.prog (KG W) := Ent.ok_of mixed (known_ok hW) Tab.ok_nil DsT278
def DsE279 : Ent := ⟨36, (.cons (.str 3 7302247) .nil), ⟨[], 41199⟩, (.tup (avs [(.agg (avs [(nu 0), (nu 4), (nu 0), .nils, (nu 0), (.str 3 7302247)])), (.bool true)])), ⟨[], 41500⟩⟩
theorem DsT279 : Ent.check Tryz.prog known [] 990 DsE279 = true := by kernel_rfl
theorem DsK279 {W : World} (hW : LibW W) : DsE279.Ok Tryz.prog (KG W) := Ent.ok_of mixed (known_ok hW) Tab.ok_nil DsT279
def DsE280 : Ent := ⟨36, (.cons (.str 4 1702060386) .nil), ⟨[], 41516⟩, (.tup (avs [(.agg (avs [(nu 3), (nu 0), (nu 0), .nils, (nu 0), (.str 4 1702060386)])), (.bool true)])), ⟨[], 41817⟩⟩
theorem DsT280 : Ent.check Tryz.prog known [] 990 DsE280 = true := by kernel_rfl
theorem DsK280 {W : World} (hW : LibW W) : DsE280.Ok Tryz.prog (KG W) := Ent.ok_of mixed (known_ok hW) Tab.ok_nil DsT280
def DsE281 : Ent := ⟨36, (.cons (.str 3 6710895) .nil), ⟨[], 41833⟩, (.tup (avs [(.agg (avs [(nu 3), (nu 12), (nu 0), (.sl 41844 0 2 3 true), (nu 0), (.str 3 6710895)])), (.bool true)])), ⟨[DsO326], 42134⟩⟩
theorem DsT281 : Ent.check Tryz.prog known [] 990 DsE281 = true := by kernel_rfl
theorem DsK281 {W : World} (hW : LibW W) : DsE281.Ok Tryz.prog (KG W) := Ent.ok_of mixed (known_ok hW) Tab.ok_nil DsT281
def DsE282 : Ent := ⟨36, (.cons (.str 5 242202275692) .nil), ⟨[], 42174⟩, (.tup (avs [(.agg (avs [(nu 0), (nu 5), (nu 0), (.sl 42434 0 1 3 true), (nu 0), (.str 5 242202275692)])), (.bool true)])), ⟨[DsO327], 42475⟩⟩
theorem DsT282 : Ent.check Tryz.prog known [] 990 DsE282 = true := by kernel_rfl
theorem DsK282 {W : World} (hW : LibW W) : DsE282.Ok Tryz.prog (KG W) := Ent.ok_of mixed (known_ok hW) Tab.ok_nil DsT282
def DsE283 : Ent := ⟨36, (.cons (.str 6 59585765404524) .nil), ⟨[], 42503⟩, (.tup (avs [(.agg (avs [(nu 0), (nu 6), (nu 0), (.sl 42769 0 1 3 true), (nu 0), (.str 6 59585765404524)])), (.bool true)])), ⟨[DsO328], 42804⟩⟩
theorem DsT283 : Ent.check Tryz.prog known [] 990 DsE283 = true := by kernel_rfl
theorem DsK283 {W : World} (hW : LibW W) : DsE283.Ok Tryz.prog (KG W) := Ent.ok_of mixed (known_ok hW) Tab.ok_nil DsT283
def DsE284 : Ent := ⟨36, (.cons (.str 6 55196308828012) .nil), ⟨[], 42832⟩, (.tup (avs [(.agg (avs [(nu 0), (nu 7), (nu 0), (.sl 43104 0 1 3 true), (nu 0), (.str 6 55196308828012)])), (.bool true)])), ⟨[DsO329], 43133⟩⟩
theorem DsT284 : Ent.check Tryz.prog known [] 990 DsE284 = true := by kernel_rfl
theorem DsK284 {W : World} (hW : LibW W) : DsE284.Ok Tryz.prog (KG W) := Ent.ok_of mixed (known_ok hW) Tab.ok_nil DsT284
def DsE285 : Ent := ⟨36, (.cons (.str 6 57408216985452) .nil), ⟨[], 43161⟩, (.tup (avs [(.agg (avs [(nu 0), (nu 8), (nu 0), (.sl 43439 0 1 3 true), (nu 0), (.str 6 57408216985452)])), (.bool true)])), ⟨[DsO330], 43462⟩⟩
theorem DsT285 : Ent.check Tryz.prog known [] 990 DsE285 = true := by kernel_rfl
theorem DsK285 {W : World} (hW : LibW W) : DsE285.Ok Tryz.prog (KG W) := Ent.ok_of mixed (known_ok hW) Tab.ok_nil DsT285
def DsE286 : Ent := ⟨36, (.cons (.str 6 62076846436204) .nil), ⟨[], 43490⟩, (.tup (avs [(.agg (avs [(nu 0), (nu 9), (nu 0), (.sl 43774 0 1 3 true), (nu 0), (.str 6 62076846436204)])), (.bool true)])), ⟨[DsO331], 43791⟩⟩
theorem DsT286 : Ent.check Tryz.prog known [] 990 DsE286 = true := by kernel_rfl
theorem DsK286 {W : World} (hW : LibW W) : DsE286.Ok Tryz.prog (KG W) := Ent.ok_of mixed (known_ok hW) Tab.ok_nil DsT286
def DsE287 : Ent := ⟨36, (.cons (.str 7 15254029007417196) .nil), ⟨[], 43819⟩, (.tup (avs [(.agg (avs [(nu 0), (nu 10), (nu 0), (.sl 44109 0 1 3 true), (nu 0), (.str 7 15254029007417196)])), (.bool true)])), ⟨[DsO332], 44120⟩⟩
theorem DsT287 : Ent.check Tryz.prog known [] 990 DsE287 = true := by kernel_rfl
theorem DsK287 {W : World} (hW : LibW W) : DsE287.Ok Tryz.prog (KG W) := Ent.ok_of mixed (known_ok hW) Tab.ok_nil DsT287
def DsE288 : Ent := ⟨36, (.cons (.str 7 14130328123830124) .nil), ⟨[], 44148⟩, (.tup (avs [(.agg (avs [(nu 0), (nu 11), (nu 0), (.sl 44444 0 1 3 true), (nu 0), (.str 7 14130328123830124)])), (.bool true)])), ⟨[DsO333], 44449⟩⟩
theorem DsT288 : Ent.check Tryz.prog known [] 990 DsE288 = true := by kernel_rfl
theorem DsK288 {W : World} (hW : LibW W) : DsE288.Ok Tryz.prog (KG W) := Ent.ok_of mixed (known_ok hW) Tab.ok_nil DsT288
def DsE289 : Ent := ⟨36, (.cons (.str 3 6579297) .nil), ⟨[], 44477⟩, (.tup (avs [(.agg (avs [(nu 0), (nu 12), (nu 0), (.sl 44494 0 2 3 true), (nu 0), (.str 3 6579297)])), (.bool true)])), ⟨[DsO334], 44778⟩⟩
theorem DsT289 : Ent.check Tryz.prog known [] 990 DsE289 = true := by kernel_rfl
theorem DsK289 {W : World} (hW : LibW W) : DsE289.Ok Tryz.prog (KG W) := Ent.ok_of mixed (known_ok hW) Tab.ok_nil DsT289
def DsE290 : Ent := ⟨36, (.cons (.str 4 1768186977) .nil), ⟨[], 44818⟩, (.tup (avs [(.agg (avs [(nu 0), (nu 12), (nu 0), (.sl 44839 0 2 3 true), (nu 0), (.str 4 1768186977)])), (.bool true)])), ⟨[DsO335], 45119⟩⟩
theorem DsT290 : Ent.check Tryz.prog known [] 990 DsE290 = true := by kernel_rfl
theorem DsK290 {W : World} (hW : LibW W) : DsE290.Ok Tryz.prog (KG W) := Ent.ok_of mixed (known_ok hW) Tab.ok_nil DsT290
def DsE291 : Ent := ⟨36, (.cons (.str 3 6452595) .nil), ⟨[], 45159⟩, (.tup (avs [(.agg (avs [(nu 0), (nu 13), (nu 0), (.sl 45187 0 2 3 true), (nu 0), (.str 3 6452595)])), (.bool true)])), ⟨[DsO336], 45460⟩⟩
theorem DsT291 : Ent.check Tryz.prog known [] 990 DsE291 = true := by kernel_rfl
theorem DsK291 {W : World} (hW : LibW W) : DsE291.Ok Tryz.prog (KG W) := Ent.ok_of mixed (known_ok hW) Tab.ok_nil DsT291
def DsE292 : Ent := ⟨36, (.cons (.str 4 1768060275) .nil), ⟨[], 45500⟩, (.tup (avs [(.agg (avs [(nu 0), (nu 13), (nu 0), (.sl 45532 0 2 3 true), (nu 0), (.str 4 1768060275)])), (.bool true)])), ⟨[DsO337], 45801⟩⟩
theorem DsT292 : Ent.check Tryz.prog known [] 990 DsE292 = true := by kernel_rfl
theorem DsK292 {W : World} (hW : LibW W) : DsE292.Ok Tryz.prog (KG W) := Ent.ok_of mixed (known_ok hW) Tab.ok_nil DsT292
def DsE293 : Ent := ⟨36, (.cons (.str 3 7107949) .nil), ⟨[], 45841⟩, (.tup (avs [(.agg (avs [(nu 0), (nu 14), (nu 0), (.sl 45880 0 2 3 true), (nu 0), (.str 3 7107949)])), (.bool true)])), ⟨[DsO338], 46142⟩⟩
theorem DsT293 : Ent.check Tryz.prog known [] 990 DsE293 = true := by kernel_rfl
theorem DsK293 {W : World} (hW : LibW W) : DsE293.Ok Tryz.prog (KG W) := Ent.ok_of mixed (known_ok hW) Tab.ok_nil DsT293
def DsE294 : Ent := ⟨36, (.cons (.str 4 1768715629) .nil), ⟨[], 46182⟩, (.tup (avs [(.agg (avs [(nu 0), (nu 14), (nu 0), (.sl 46225 0 2 3 true), (nu 0), (.str 4 1768715629)])), (.bool true)])), ⟨[DsO339], 46483⟩⟩
theorem DsT294 : Ent.check Tryz.prog known [] 990 DsE294 = true := by kernel_rfl
theorem DsK294 {W : World} (hW : LibW W) : DsE294.Ok Tryz.prog (KG W) := Ent.ok_of mixed (known_ok hW) Tab.ok_nil DsT294
def DsE295 : Ent := ⟨36, (.cons (.str 3 7760228) .nil), ⟨[], 46523⟩, (.tup (avs [(.agg (avs [(nu 0), (nu 15), (nu 0), (.sl 46573 0 2 3 true), (nu 0), (.str 3 7760228)])), (.bool true)])), ⟨[DsO340], 46824⟩⟩
theorem DsT295 : Ent.check Tryz.prog known [] 990 DsE295 = true := by kernel_rfl
theorem DsK295 {W : World} (hW : LibW W) : DsE295.Ok Tryz.prog (KG W) := Ent.ok_of mixed (known_ok hW) Tab.ok_nil DsT295
def DsE296 : Ent := ⟨36, (.cons (.str 4 1970694500) .nil), ⟨[], 46864⟩, (.tup (avs [(.agg (avs [(nu 0), (nu 16), (nu 0), (.sl 46925 0 2 3 true), (nu 0), (.str 4 1970694500)])), (.bool true)])), ⟨[DsO341], 47165⟩⟩
theorem DsT296 : Ent.check Tryz.prog known [] 990 DsE296 = true := by kernel_rfl
theorem DsK296 {W : World} (hW : LibW W) : DsE296.Ok Tryz.prog (KG W) := Ent.ok_of mixed (known_ok hW) Tab.ok_nil DsT296
def DsE297 : Ent := ⟨36, (.cons (.str 3 7169394) .nil), ⟨[], 47205⟩, (.tup (avs [(.agg (avs [(nu 0), (nu 17), (nu 0), (.sl 47277 0 2 3 true), (nu 0), (.str 3 7169394)])), (.bool true)])), ⟨[DsO342], 47506⟩⟩
theorem DsT297 : Ent.check Tryz.prog known [] 990 DsE297 = true := by kernel_rfl
theorem DsK297 {W : World} (hW : LibW W) : DsE297.Ok Tryz.prog (KG W) := Ent.ok_of mixed (known_ok hW) Tab.ok_nil DsT297
def DsE298 : Ent := ⟨36, (.cons (.str 4 1970103666) .nil), ⟨[], 47546⟩, (.tup (avs [(.agg (avs [(nu 0), (nu 18), (nu 0), (.sl 47629 0 2 3 true), (nu 0), (.str 4 1970103666)])), (.bool true)])), ⟨[DsO343], 47847⟩⟩
theorem DsT298 : Ent.check Tryz.prog known [] 990 DsE298 = true := by kernel_rfl
theorem DsK298 {W : World} (hW : LibW W) : DsE298.Ok Tryz.prog (KG W) := Ent.ok_of mixed (known_ok hW) Tab.ok_nil DsT298
def DsE299 : Ent := ⟨36, (.cons (.str 3 6581857) .nil), ⟨[], 47887⟩, (.tup (avs [(.agg (avs [(nu 0), (nu 19), (nu 0), (.sl 47981 0 2 3 true), (nu 0), (.str 3 6581857)])), (.bool true)])), ⟨[DsO344], 48188⟩⟩
theorem DsT299 : Ent.check Tryz.prog known [] 990 DsE299 = true := by kernel_rfl
theorem DsK299 {W : World} (hW : LibW W) : DsE299.Ok Tryz.prog (KG W) := Ent.ok_of mixed (known_ok hW) Tab.ok_nil DsT299
def DsE300 : Ent := ⟨36, (.cons (.str 4 1768189537) .nil), ⟨[], 48228⟩, (.tup (avs [(.agg (avs [(nu 0), (nu 19), (nu 0), (.sl 48326 0 2 3 true), (nu 0), (.str 4 1768189537)])), (.bool true)])), ⟨[DsO345], 48529⟩⟩
theorem DsT300 : Ent.check Tryz.prog known [] 990 DsE300 = true := by kernel_rfl
theorem DsK300 {W : World} (hW : LibW W) : DsE300.Ok Tryz.prog (KG W) := Ent.ok_of mixed (known_ok hW) Tab.ok_nil DsT300
def DsE301 : Ent := ⟨36, (.cons (.str 2 29295) .nil), ⟨[], 48569⟩, (.tup (avs [(.agg (avs [(nu 0), (nu 20), (nu 0), (.sl 48674 0 2 3 true), (nu 0), (.str 2 29295)])), (.bool true)])), ⟨[DsO346], 48870⟩⟩
theorem DsT301 : Ent.check Tryz.prog known [] 990 DsE301 = true := by kernel_rfl
theorem DsK301 {W : World} (hW : LibW W) : DsE301.Ok Tryz.prog (KG W) := Ent.ok_of mixed (known_ok hW) Tab.ok_nil DsT301
def DsE302 : Ent := ⟨36, (.cons (.str 3 6910575) .nil), ⟨[], 48910⟩, (.tup (avs [(.agg (avs [(nu 0), (nu 20), (nu 0), (.sl 49019 0 2 3 true), (nu 0), (.str 3 6910575)])), (.bool true)])), ⟨[DsO347], 49211⟩⟩
theorem DsT302 : Ent.check Tryz.prog known [] 990 DsE302 = true := by kernel_rfl
theorem DsK302 {W : World} (hW : LibW W) : DsE302.Ok Tryz.prog (KG W) := Ent.ok_of mixed (known_ok hW) Tab.ok_nil DsT302
end Go.Proofs.YtpepepkfjimoeaaGreatDoor

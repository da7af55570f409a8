/- Calls that were proved one by one: what the evaluator says. -/
import Derived.Test.YtpepepkfjimoeaaGreatDoorPbO
import Derived.Test.YtpepepkfjimoeaaGreatDoorProg
import Derived.ProofKit
import Derived.Test.YtpepepkfjimoeaaGreatDoorVy
import Derived.Test.YtpepepkfjimoeaaGreatDoorPb5
namespace Go.Proofs.YtpepepkfjimoeaaGreatDoor
open Go.Proofs.YtpepepkfjimoeaaGreatDoor.Ev
set_option maxRecDepth 100000

def PbE225 : Ent := ⟨161, (.cons (.ptr 61252 0) (.cons (nu 3) (.cons (nu 2) .nil))), ⟨[PbO358, PbO359], 61643⟩, (.agg (avs [(nu 18), (nu 0), (nu 0), (nu 0), (.str 0 0), (nu 0), (.sl 62133 0 2 8 true), (nu 17)])), ⟨[PbO358, PbO362, PbO361, PbO363], 62538⟩⟩
theorem PbT225 : Ent.check Tryz.prog known [(161, [PbE224])] 990 PbE225 = true := by kernel_rfl
theorem PbK225 {W : World} (hW : LibW W) : PbE225.Ok Tryz.prog (KG W) := Ent.ok_of mixed (known_ok hW) (Tab.ok_cons (f := 161) (Ent.ok_cons (PbK224 hW) Ent.ok_nil) Tab.ok_nil) PbT225
def PbE226 : Ent := ⟨50, (.cons (.ptr 61252 0) (.cons (nu 1) .nil)), ⟨[PbO358, PbO364], 61512⟩, (.sl 62673 0 1 9 false), ⟨[PbO358, PbO365, PbO361, PbO363, PbO366, PbO367], 62714⟩⟩
theorem PbT226 : Ent.check Tryz.prog known [(161, [PbE225])] 990 PbE226 = true := by kernel_rfl
theorem PbK226 {W : World} (hW : LibW W) : PbE226.Ok Tryz.prog (KG W) := Ent.ok_of mixed (known_ok hW) (Tab.ok_cons (f := 161) (Ent.ok_cons (PbK225 hW) Ent.ok_nil) Tab.ok_nil) PbT226
def PbE227 : Ent := ⟨15, (.cons (.str 23 PbS28) .nil), ⟨[], 62742⟩, (.tup (avs [(.sl 62849 0 16 4 false), (.agg (avs [(nu 0), (nu 0)]))])), ⟨[PbO368], 62850⟩⟩
theorem PbT227 : Ent.check Tryz.prog known [] 990 PbE227 = true := by kernel_rfl
theorem PbK227 {W : World} (hW : LibW W) : PbE227.Ok Tryz.prog (KG W) := Ent.ok_of mixed (known_ok hW) Tab.ok_nil PbT227
def PbE228 : Ent := ⟨161, (.cons (.ptr 62851 0) (.cons (nu 4) (.cons (nu 9) .nil))), ⟨[PbO368, PbO369], 63368⟩, (.agg (avs [(nu 9), (nu 5), (nu 0), (nu 0), (.str 0 0), (nu 0), (.sl 63762 0 1 8 true), (nu 12)])), ⟨[PbO368, PbO370, PbO371], 63795⟩⟩
theorem PbT228 : Ent.check Tryz.prog known [] 990 PbE228 = true := by kernel_rfl
theorem PbK228 {W : World} (hW : LibW W) : PbE228.Ok Tryz.prog (KG W) := Ent.ok_of mixed (known_ok hW) Tab.ok_nil PbT228
def PbE229 : Ent := ⟨161, (.cons (.ptr 62851 0) (.cons (nu 4) (.cons (nu 4) .nil))), ⟨[PbO368, PbO369], 63363⟩, (.agg (avs [(nu 9), (nu 5), (nu 0), (nu 0), (.str 0 0), (nu 0), (.sl 63762 0 1 8 true), (nu 12)])), ⟨[PbO368, PbO370, PbO371], 63955⟩⟩
theorem PbT229 : Ent.check Tryz.prog known [(161, [PbE228])] 990 PbE229 = true := by kernel_rfl
theorem PbK229 {W : World} (hW : LibW W) : PbE229.Ok Tryz.prog (KG W) := Ent.ok_of mixed (known_ok hW) (Tab.ok_cons (f := 161) (Ent.ok_cons (PbK228 hW) Ent.ok_nil) Tab.ok_nil) PbT229
def PbE230 : Ent := ⟨119, (.cons (.ptr 62851 0) (.cons (nu 4) .nil)), ⟨[PbO368, PbO369], 63357⟩, (.agg (avs [(nu 9), (nu 5), (nu 0), (nu 0), (.str 0 0), (nu 0), (.sl 63762 0 1 8 true), (nu 12)])), ⟨[PbO368, PbO370, PbO371], 64125⟩⟩
theorem PbT230 : Ent.check Tryz.prog known [(161, [PbE229])] 990 PbE230 = true := by kernel_rfl
theorem PbK230 {W : World} (hW : LibW W) : PbE230.Ok Tryz.prog (KG W) := Ent.ok_of mixed (known_ok hW) (Tab.ok_cons (f := 161) (Ent.ok_cons (PbK229 hW) Ent.ok_nil) Tab.ok_nil) PbT230
def PbE231 : Ent := ⟨161, (.cons (.ptr 62851 0) (.cons (nu 3) (.cons (nu 8) .nil))), ⟨[PbO368, PbO372], 63248⟩, (.agg (avs [(nu 18), (nu 0), (nu 0), (nu 0), (.str 0 0), (nu 0), (.sl 64295 0 2 8 true), (nu 19)])), ⟨[PbO368, PbO373, PbO371, PbO374], 64508⟩⟩
theorem PbT231 : Ent.check Tryz.prog known [(119, [PbE230])] 990 PbE231 = true := by kernel_rfl
theorem PbK231 {W : World} (hW : LibW W) : PbE231.Ok Tryz.prog (KG W) := Ent.ok_of mixed (known_ok hW) (Tab.ok_cons (f := 119) (Ent.ok_cons (PbK230 hW) Ent.ok_nil) Tab.ok_nil) PbT231
def PbE232 : Ent := ⟨161, (.cons (.ptr 62851 0) (.cons (nu 3) (.cons (nu 3) .nil))), ⟨[PbO368, PbO372], 63243⟩, (.agg (avs [(nu 18), (nu 0), (nu 0), (nu 0), (.str 0 0), (nu 0), (.sl 64295 0 2 8 true), (nu 19)])), ⟨[PbO368, PbO373, PbO371, PbO374], 64668⟩⟩
theorem PbT232 : Ent.check Tryz.prog known [(161, [PbE231])] 990 PbE232 = true := by kernel_rfl
theorem PbK232 {W : World} (hW : LibW W) : PbE232.Ok Tryz.prog (KG W) := Ent.ok_of mixed (known_ok hW) (Tab.ok_cons (f := 161) (Ent.ok_cons (PbK231 hW) Ent.ok_nil) Tab.ok_nil) PbT232
def PbE233 : Ent := ⟨119, (.cons (.ptr 62851 0) (.cons (nu 3) .nil)), ⟨[PbO368, PbO372], 63238⟩, (.agg (avs [(nu 18), (nu 0), (nu 0), (nu 0), (.str 0 0), (nu 0), (.sl 64295 0 2 8 true), (nu 19)])), ⟨[PbO368, PbO373, PbO371, PbO374], 64806⟩⟩
theorem PbT233 : Ent.check Tryz.prog known [(161, [PbE232])] 990 PbE233 = true := by kernel_rfl
theorem PbK233 {W : World} (hW : LibW W) : PbE233.Ok Tryz.prog (KG W) := Ent.ok_of mixed (known_ok hW) (Tab.ok_cons (f := 161) (Ent.ok_cons (PbK232 hW) Ent.ok_nil) Tab.ok_nil) PbT233
def PbE234 : Ent := ⟨5, (.cons (.str 23 PbS28) .nil), ⟨[], 62740⟩, (.tup (avs [(.agg (avs [.nils, (.sl 64887 0 1 8 false)])), (.agg (avs [(nu 0), (nu 0)]))])), ⟨[PbO371, PbO374, PbO375, PbO376, PbO377], 64900⟩⟩
theorem PbT234 : Ent.check Tryz.prog known [(15, [PbE227]), (119, [PbE233])] 990 PbE234 = true := by kernel_rfl
theorem PbK234 {W : World} (hW : LibW W) : PbE234.Ok Tryz.prog (KG W) := Ent.ok_of mixed (known_ok hW) (Tab.ok_cons (f := 15) (Ent.ok_cons (PbK227 hW) Ent.ok_nil) (Tab.ok_cons (f := 119) (Ent.ok_cons (PbK233 hW) Ent.ok_nil) Tab.ok_nil)) PbT234
def PbE235 : Ent := ⟨15, (.cons (.str 19 PbS29) .nil), ⟨[], 65066⟩, (.tup (avs [(.sl 65161 0 13 4 false), (.agg (avs [(nu 0), (nu 0)]))])), ⟨[PbO378], 65162⟩⟩
theorem PbT235 : Ent.check Tryz.prog known [] 990 PbE235 = true := by kernel_rfl
theorem PbK235 {W : World} (hW : LibW W) : PbE235.Ok Tryz.prog (KG W) := Ent.ok_of mixed (known_ok hW) Tab.ok_nil PbT235
def PbE236 : Ent := ⟨161, (.cons (.ptr 65163 0) (.cons (nu 3) (.cons (nu 7) .nil))), ⟨[PbO378, PbO379], 65559⟩, (.agg (avs [(nu 2), (nu 0), (nu 0), (nu 0), (.str 1 97), (nu 0), .nils, (nu 11)])), ⟨[PbO378, PbO380], 65807⟩⟩
theorem PbT236 : Ent.check Tryz.prog known [] 990 PbE236 = true := by kernel_rfl
theorem PbK236 {W : World} (hW : LibW W) : PbE236.Ok Tryz.prog (KG W) := Ent.ok_of mixed (known_ok hW) Tab.ok_nil PbT236
def PbE237 : Ent := ⟨161, (.cons (.ptr 65163 0) (.cons (nu 3) (.cons (nu 7) .nil))), ⟨[PbO378, PbO381], 66001⟩, (.agg (avs [(nu 2), (nu 0), (nu 0), (nu 0), (.str 1 98), (nu 0), .nils, (nu 13)])), ⟨[PbO378, PbO382], 66249⟩⟩
theorem PbT237 : Ent.check Tryz.prog known [] 990 PbE237 = true := by kernel_rfl
theorem PbK237 {W : World} (hW : LibW W) : PbE237.Ok Tryz.prog (KG W) := Ent.ok_of mixed (known_ok hW) Tab.ok_nil PbT237
def PbE238 : Ent := ⟨161, (.cons (.ptr 65163 0) (.cons (nu 3) (.cons (nu 2) .nil))), ⟨[PbO378, PbO379], 65554⟩, (.agg (avs [(nu 30), (nu 0), (nu 0), (nu 0), (.str 0 0), (nu 0), (.sl 65994 0 2 8 true), (nu 12)])), ⟨[PbO378, PbO382, PbO383], 66413⟩⟩
theorem PbT238 : Ent.check Tryz.prog known [(161, [PbE236, PbE237])] 990 PbE238 = true := by kernel_rfl
theorem PbK238 {W : World} (hW : LibW W) : PbE238.Ok Tryz.prog (KG W) := Ent.ok_of mixed (known_ok hW) (Tab.ok_cons (f := 161) (Ent.ok_cons (PbK236 hW) (Ent.ok_cons (PbK237 hW) Ent.ok_nil)) Tab.ok_nil) PbT238
def PbE239 : Ent := ⟨161, (.cons (.ptr 65163 0) (.cons (nu 3) (.cons (nu 6) .nil))), ⟨[PbO378, PbO384], 66475⟩, (.agg (avs [(nu 2), (nu 0), (nu 0), (nu 0), (.str 1 99), (nu 0), .nils, (nu 16)])), ⟨[PbO378, PbO385], 66753⟩⟩
theorem PbT239 : Ent.check Tryz.prog known [] 990 PbE239 = true := by kernel_rfl
theorem PbK239 {W : World} (hW : LibW W) : PbE239.Ok Tryz.prog (KG W) := Ent.ok_of mixed (known_ok hW) Tab.ok_nil PbT239
def PbE240 : Ent := ⟨161, (.cons (.ptr 65163 0) (.cons (nu 3) (.cons (nu 1) .nil))), ⟨[PbO378, PbO379], 65553⟩, (.agg (avs [(nu 31), (nu 0), (nu 0), (nu 0), (.str 0 0), (nu 0), (.sl 66468 0 2 8 true), (nu 14)])), ⟨[PbO378, PbO385, PbO383, PbO386], 66912⟩⟩
theorem PbT240 : Ent.check Tryz.prog known [(161, [PbE238, PbE239])] 990 PbE240 = true := by kernel_rfl
theorem PbK240 {W : World} (hW : LibW W) : PbE240.Ok Tryz.prog (KG W) := Ent.ok_of mixed (known_ok hW) (Tab.ok_cons (f := 161) (Ent.ok_cons (PbK238 hW) (Ent.ok_cons (PbK239 hW) Ent.ok_nil)) Tab.ok_nil) PbT240
def PbE241 : Ent := ⟨18, (.cons (.ptr 65163 0) (.cons (.ptr 65164 0) .nil)), ⟨[PbO378, PbO387, PbO388], 65177⟩, (.tup (avs [])), ⟨[PbO378, PbO389, PbO390, PbO383, PbO386, PbO391, PbO392, PbO393], 67068⟩⟩
theorem PbT241 : Ent.check Tryz.prog known [(161, [PbE240])] 990 PbE241 = true := by kernel_rfl
theorem PbK241 {W : World} (hW : LibW W) : PbE241.Ok Tryz.prog (KG W) := Ent.ok_of mixed (known_ok hW) (Tab.ok_cons (f := 161) (Ent.ok_cons (PbK240 hW) Ent.ok_nil) Tab.ok_nil) PbT241
def PbE242 : Ent := ⟨15, (.cons (.str 21 PbS30) .nil), ⟨[], 67084⟩, (.tup (avs [(.sl 67187 0 15 4 false), (.agg (avs [(nu 0), (nu 0)]))])), ⟨[PbO394], 67188⟩⟩
theorem PbT242 : Ent.check Tryz.prog known [] 990 PbE242 = true := by kernel_rfl
theorem PbK242 {W : World} (hW : LibW W) : PbE242.Ok Tryz.prog (KG W) := Ent.ok_of mixed (known_ok hW) Tab.ok_nil PbT242
def PbE243 : Ent := ⟨161, (.cons (.ptr 67189 0) (.cons (nu 4) (.cons (nu 7) .nil))), ⟨[PbO394, PbO395], 67704⟩, (.agg (avs [(nu 2), (nu 0), (nu 0), (nu 0), (.str 1 97), (nu 0), .nils, (nu 12)])), ⟨[PbO394, PbO396], 67952⟩⟩
theorem PbT243 : Ent.check Tryz.prog known [] 990 PbE243 = true := by kernel_rfl
theorem PbK243 {W : World} (hW : LibW W) : PbE243.Ok Tryz.prog (KG W) := Ent.ok_of mixed (known_ok hW) Tab.ok_nil PbT243
def PbE244 : Ent := ⟨161, (.cons (.ptr 67189 0) (.cons (nu 4) (.cons (nu 6) .nil))), ⟨[PbO394, PbO397], 68145⟩, (.agg (avs [(nu 2), (nu 0), (nu 0), (nu 0), (.str 1 98), (nu 0), .nils, (nu 14)])), ⟨[PbO394, PbO398], 68423⟩⟩
theorem PbT244 : Ent.check Tryz.prog known [] 990 PbE244 = true := by kernel_rfl
theorem PbK244 {W : World} (hW : LibW W) : PbE244.Ok Tryz.prog (KG W) := Ent.ok_of mixed (known_ok hW) Tab.ok_nil PbT244
def PbE245 : Ent := ⟨161, (.cons (.ptr 67189 0) (.cons (nu 4) (.cons (nu 2) .nil))), ⟨[PbO394, PbO395], 67699⟩, (.agg (avs [(nu 30), (nu 0), (nu 0), (nu 0), (.str 0 0), (nu 0), (.sl 68139 0 2 8 true), (nu 13)])), ⟨[PbO394, PbO398, PbO399], 68550⟩⟩
theorem PbT245 : Ent.check Tryz.prog known [(161, [PbE243, PbE244])] 990 PbE245 = true := by kernel_rfl
theorem PbK245 {W : World} (hW : LibW W) : PbE245.Ok Tryz.prog (KG W) := Ent.ok_of mixed (known_ok hW) (Tab.ok_cons (f := 161) (Ent.ok_cons (PbK243 hW) (Ent.ok_cons (PbK244 hW) Ent.ok_nil)) Tab.ok_nil) PbT245
def PbE246 : Ent := ⟨188, (.cons (.ptr 67189 0) (.cons (nu 3) .nil)), ⟨[PbO394, PbO400], 67639⟩, (.agg (avs [(nu 30), (nu 0), (nu 0), (nu 0), (.str 0 0), (nu 0), (.sl 68139 0 2 8 true), (nu 13)])), ⟨[PbO394, PbO401, PbO399], 68738⟩⟩
theorem PbT246 : Ent.check Tryz.prog known [(161, [PbE245])] 990 PbE246 = true := by kernel_rfl
theorem PbK246 {W : World} (hW : LibW W) : PbE246.Ok Tryz.prog (KG W) := Ent.ok_of mixed (known_ok hW) (Tab.ok_cons (f := 161) (Ent.ok_cons (PbK245 hW) Ent.ok_nil) Tab.ok_nil) PbT246
def PbE247 : Ent := ⟨161, (.cons (.ptr 67189 0) (.cons (nu 3) (.cons (nu 6) .nil))), ⟨[PbO394, PbO400], 67584⟩, (.agg (avs [(nu 30), (nu 0), (nu 0), (nu 0), (.str 0 0), (nu 0), (.sl 68139 0 2 8 true), (nu 13)])), ⟨[PbO394, PbO401, PbO399], 68870⟩⟩
theorem PbT247 : Ent.check Tryz.prog known [(188, [PbE246])] 990 PbE247 = true := by kernel_rfl
theorem PbK247 {W : World} (hW : LibW W) : PbE247.Ok Tryz.prog (KG W) := Ent.ok_of mixed (known_ok hW) (Tab.ok_cons (f := 188) (Ent.ok_cons (PbK246 hW) Ent.ok_nil) Tab.ok_nil) PbT247
def PbE248 : Ent := ⟨161, (.cons (.ptr 67189 0) (.cons (nu 3) (.cons (nu 6) .nil))), ⟨[PbO394, PbO402], 69064⟩, (.agg (avs [(nu 2), (nu 0), (nu 0), (nu 0), (.str 1 99), (nu 0), .nils, (nu 18)])), ⟨[PbO394, PbO403], 69342⟩⟩
theorem PbT248 : Ent.check Tryz.prog known [] 990 PbE248 = true := by kernel_rfl
theorem PbK248 {W : World} (hW : LibW W) : PbE248.Ok Tryz.prog (KG W) := Ent.ok_of mixed (known_ok hW) Tab.ok_nil PbT248
def PbE249 : Ent := ⟨161, (.cons (.ptr 67189 0) (.cons (nu 3) (.cons (nu 1) .nil))), ⟨[PbO394, PbO400], 67579⟩, (.agg (avs [(nu 31), (nu 0), (nu 0), (nu 0), (.str 0 0), (nu 0), (.sl 69057 0 2 8 true), (nu 16)])), ⟨[PbO394, PbO403, PbO399, PbO404], 69501⟩⟩
theorem PbT249 : Ent.check Tryz.prog known [(161, [PbE247, PbE248])] 990 PbE249 = true := by kernel_rfl
theorem PbK249 {W : World} (hW : LibW W) : PbE249.Ok Tryz.prog (KG W) := Ent.ok_of mixed (known_ok hW) (Tab.ok_cons (f := 161) (Ent.ok_cons (PbK247 hW) (Ent.ok_cons (PbK248 hW) Ent.ok_nil)) Tab.ok_nil) PbT249
def PbE250 : Ent := ⟨18, (.cons (.ptr 67189 0) (.cons (.ptr 67190 0) .nil)), ⟨[PbO394, PbO405, PbO406], 67203⟩, (.tup (avs [])), ⟨[PbO394, PbO407, PbO408, PbO399, PbO404, PbO409, PbO410, PbO411], 69657⟩⟩
theorem PbT250 : Ent.check Tryz.prog known [(161, [PbE249])] 990 PbE250 = true := by kernel_rfl
theorem PbK250 {W : World} (hW : LibW W) : PbE250.Ok Tryz.prog (KG W) := Ent.ok_of mixed (known_ok hW) (Tab.ok_cons (f := 161) (Ent.ok_cons (PbK249 hW) Ent.ok_nil) Tab.ok_nil) PbT250
def PbE251 : Ent := ⟨15, (.cons (.str 19 PbS31) .nil), ⟨[], 69857⟩, (.tup (avs [(.sl 69952 0 13 4 false), (.agg (avs [(nu 0), (nu 0)]))])), ⟨[PbO412], 69953⟩⟩
theorem PbT251 : Ent.check Tryz.prog known [] 990 PbE251 = true := by kernel_rfl
theorem PbK251 {W : World} (hW : LibW W) : PbE251.Ok Tryz.prog (KG W) := Ent.ok_of mixed (known_ok hW) Tab.ok_nil PbT251
def PbE252 : Ent := ⟨161, (.cons (.ptr 69954 0) (.cons (nu 3) (.cons (nu 6) .nil))), ⟨[PbO412, PbO413], 70349⟩, (.agg (avs [(nu 2), (nu 0), (nu 0), (nu 0), (.str 1 97), (nu 0), .nils, (nu 11)])), ⟨[PbO412, PbO414], 70631⟩⟩
theorem PbT252 : Ent.check Tryz.prog known [] 990 PbE252 = true := by kernel_rfl
theorem PbK252 {W : World} (hW : LibW W) : PbE252.Ok Tryz.prog (KG W) := Ent.ok_of mixed (known_ok hW) Tab.ok_nil PbT252
def PbE253 : Ent := ⟨161, (.cons (.ptr 69954 0) (.cons (nu 3) (.cons (nu 6) .nil))), ⟨[PbO412, PbO415], 70689⟩, (.agg (avs [(nu 2), (nu 0), (nu 0), (nu 0), (.str 1 98), (nu 0), .nils, (nu 14)])), ⟨[PbO412, PbO416], 70971⟩⟩
theorem PbT253 : Ent.check Tryz.prog known [] 990 PbE253 = true := by kernel_rfl
theorem PbK253 {W : World} (hW : LibW W) : PbE253.Ok Tryz.prog (KG W) := Ent.ok_of mixed (known_ok hW) Tab.ok_nil PbT253
def PbE254 : Ent := ⟨161, (.cons (.ptr 69954 0) (.cons (nu 3) (.cons (nu 6) .nil))), ⟨[PbO412, PbO417], 71062⟩, (.agg (avs [(nu 2), (nu 0), (nu 0), (nu 0), (.str 1 99), (nu 0), .nils, (nu 16)])), ⟨[PbO412, PbO418], 71340⟩⟩
theorem PbT254 : Ent.check Tryz.prog known [] 990 PbE254 = true := by kernel_rfl
theorem PbK254 {W : World} (hW : LibW W) : PbE254.Ok Tryz.prog (KG W) := Ent.ok_of mixed (known_ok hW) Tab.ok_nil PbT254
def PbE255 : Ent := ⟨161, (.cons (.ptr 69954 0) (.cons (nu 3) (.cons (nu 4) .nil))), ⟨[PbO412, PbO413], 70347⟩, (.agg (avs [(nu 28), (nu 0), (nu 0), (nu 0), (.str 0 0), (nu 0), (.sl 71058 0 2 8 true), (nu 15)])), ⟨[PbO412, PbO418, PbO419, PbO420], 71403⟩⟩
theorem PbT255 : Ent.check Tryz.prog known [(161, [PbE252, PbE253, PbE254])] 990 PbE255 = true := by kernel_rfl
theorem PbK255 {W : World} (hW : LibW W) : PbE255.Ok Tryz.prog (KG W) := Ent.ok_of mixed (known_ok hW) (Tab.ok_cons (f := 161) (Ent.ok_cons (PbK252 hW) (Ent.ok_cons (PbK253 hW) (Ent.ok_cons (PbK254 hW) Ent.ok_nil))) Tab.ok_nil) PbT255
def PbE256 : Ent := ⟨119, (.cons (.ptr 69954 0) (.cons (nu 3) .nil)), ⟨[PbO412, PbO413], 70341⟩, (.agg (avs [(nu 28), (nu 0), (nu 0), (nu 0), (.str 0 0), (nu 0), (.sl 71058 0 2 8 true), (nu 15)])), ⟨[PbO412, PbO418, PbO419, PbO420], 71573⟩⟩
theorem PbT256 : Ent.check Tryz.prog known [(161, [PbE255])] 990 PbE256 = true := by kernel_rfl
theorem PbK256 {W : World} (hW : LibW W) : PbE256.Ok Tryz.prog (KG W) := Ent.ok_of mixed (known_ok hW) (Tab.ok_cons (f := 161) (Ent.ok_cons (PbK255 hW) Ent.ok_nil) Tab.ok_nil) PbT256
def PbE257 : Ent := ⟨5, (.cons (.str 19 PbS31) .nil), ⟨[], 69855⟩, (.tup (avs [(.agg (avs [.nils, (.sl 71654 0 1 8 false)])), (.agg (avs [(nu 0), (nu 0)]))])), ⟨[PbO419, PbO420, PbO421, PbO422, PbO423], 71667⟩⟩
theorem PbT257 : Ent.check Tryz.prog known [(15, [PbE251]), (119, [PbE256])] 990 PbE257 = true := by kernel_rfl
theorem PbK257 {W : World} (hW : LibW W) : PbE257.Ok Tryz.prog (KG W) := Ent.ok_of mixed (known_ok hW) (Tab.ok_cons (f := 15) (Ent.ok_cons (PbK251 hW) Ent.ok_nil) (Tab.ok_cons (f := 119) (Ent.ok_cons (PbK256 hW) Ent.ok_nil) Tab.ok_nil)) PbT257
def PbE258 : Ent := ⟨15, (.cons (.str 21 PbS32) .nil), ⟨[], 71671⟩, (.tup (avs [(.sl 71774 0 15 4 false), (.agg (avs [(nu 0), (nu 0)]))])), ⟨[PbO424], 71775⟩⟩
theorem PbT258 : Ent.check Tryz.prog known [] 990 PbE258 = true := by kernel_rfl
theorem PbK258 {W : World} (hW : LibW W) : PbE258.Ok Tryz.prog (KG W) := Ent.ok_of mixed (known_ok hW) Tab.ok_nil PbT258
def PbE259 : Ent := ⟨161, (.cons (.ptr 71776 0) (.cons (nu 4) (.cons (nu 6) .nil))), ⟨[PbO424, PbO425], 72290⟩, (.agg (avs [(nu 2), (nu 0), (nu 0), (nu 0), (.str 1 97), (nu 0), .nils, (nu 12)])), ⟨[PbO424, PbO426], 72572⟩⟩
theorem PbT259 : Ent.check Tryz.prog known [] 990 PbE259 = true := by kernel_rfl
theorem PbK259 {W : World} (hW : LibW W) : PbE259.Ok Tryz.prog (KG W) := Ent.ok_of mixed (known_ok hW) Tab.ok_nil PbT259
end Go.Proofs.YtpepepkfjimoeaaGreatDoor

/- Calls that were proved one by one: what the evaluator says. -/
import Derived.Test.YtpepepkfjimoeaaGreatDoorPbO
import Derived.Test.YtpepepkfjimoeaaGreatDoorProg
import Derived.ProofKit
import Derived.Test.YtpepepkfjimoeaaGreatDoorVy
namespace Go.Proofs.YtpepepkfjimoeaaGreatDoor
open Go.Proofs.YtpepepkfjimoeaaGreatDoor.Ev
set_option maxRecDepth 100000

def PbE150 : Ent := ⟨15, (.cons (.str 20 PbS17) .nil), ⟨[], 40603⟩, (.tup (avs [(.sl 40697 0 15 4 false), (.agg (avs [(nu 0), (nu 0)]))])), ⟨[PbO228], 40698⟩⟩
theorem PbT150 : Ent.check Tryz.prog known [] 990 PbE150 = true := by kernel_rfl
theorem PbK150 {W : World} (hW : LibW W) : PbE150.Ok Tryz.prog (KG W) := Ent.ok_of mixed (known_ok hW) Tab.ok_nil PbT150
def PbE151 : Ent := ⟨161, (.cons (.ptr 40699 0) (.cons (nu 6) (.cons (nu 6) .nil))), ⟨[PbO228, PbO229], 41416⟩, (.agg (avs [(nu 2), (nu 0), (nu 0), (nu 0), (.str 1 98), (nu 0), .nils, (nu 15)])), ⟨[PbO228, PbO230], 41694⟩⟩
theorem PbT151 : Ent.check Tryz.prog known [] 990 PbE151 = true := by kernel_rfl
theorem PbK151 {W : World} (hW : LibW W) : PbE151.Ok Tryz.prog (KG W) := Ent.ok_of mixed (known_ok hW) Tab.ok_nil PbT151
def PbE152 : Ent := ⟨161, (.cons (.ptr 40699 0) (.cons (nu 6) (.cons (nu 1) .nil))), ⟨[PbO228, PbO229], 41411⟩, (.agg (avs [(nu 2), (nu 0), (nu 0), (nu 0), (.str 1 98), (nu 0), .nils, (nu 15)])), ⟨[PbO228, PbO230], 41854⟩⟩
theorem PbT152 : Ent.check Tryz.prog known [(161, [PbE151])] 990 PbE152 = true := by kernel_rfl
theorem PbK152 {W : World} (hW : LibW W) : PbE152.Ok Tryz.prog (KG W) := Ent.ok_of mixed (known_ok hW) (Tab.ok_cons (f := 161) (Ent.ok_cons (PbK151 hW) Ent.ok_nil) Tab.ok_nil) PbT152
def PbE153 : Ent := ⟨161, (.cons (.ptr 40699 0) (.cons (nu 5) (.cons (nu 9) .nil))), ⟨[PbO228, PbO231], 41263⟩, (.agg (avs [(nu 3), (nu 0), (nu 0), (nu 0), (.str 0 0), (nu 0), (.sl 41405 0 2 8 true), (nu 14)])), ⟨[PbO228, PbO232, PbO233], 42039⟩⟩
theorem PbT153 : Ent.check Tryz.prog known [(161, [PbE152])] 990 PbE153 = true := by kernel_rfl
theorem PbK153 {W : World} (hW : LibW W) : PbE153.Ok Tryz.prog (KG W) := Ent.ok_of mixed (known_ok hW) (Tab.ok_cons (f := 161) (Ent.ok_cons (PbK152 hW) Ent.ok_nil) Tab.ok_nil) PbT153
def PbE154 : Ent := ⟨161, (.cons (.ptr 40699 0) (.cons (nu 5) (.cons (nu 4) .nil))), ⟨[PbO228, PbO231], 41258⟩, (.agg (avs [(nu 3), (nu 0), (nu 0), (nu 0), (.str 0 0), (nu 0), (.sl 41405 0 2 8 true), (nu 14)])), ⟨[PbO228, PbO232, PbO233], 42199⟩⟩
theorem PbT154 : Ent.check Tryz.prog known [(161, [PbE153])] 990 PbE154 = true := by kernel_rfl
theorem PbK154 {W : World} (hW : LibW W) : PbE154.Ok Tryz.prog (KG W) := Ent.ok_of mixed (known_ok hW) (Tab.ok_cons (f := 161) (Ent.ok_cons (PbK153 hW) Ent.ok_nil) Tab.ok_nil) PbT154
def PbE155 : Ent := ⟨119, (.cons (.ptr 40699 0) (.cons (nu 5) .nil)), ⟨[PbO228, PbO231], 41252⟩, (.agg (avs [(nu 3), (nu 0), (nu 0), (nu 0), (.str 0 0), (nu 0), (.sl 41405 0 2 8 true), (nu 14)])), ⟨[PbO228, PbO232, PbO233], 42369⟩⟩
theorem PbT155 : Ent.check Tryz.prog known [(161, [PbE154])] 990 PbE155 = true := by kernel_rfl
theorem PbK155 {W : World} (hW : LibW W) : PbE155.Ok Tryz.prog (KG W) := Ent.ok_of mixed (known_ok hW) (Tab.ok_cons (f := 161) (Ent.ok_cons (PbK154 hW) Ent.ok_nil) Tab.ok_nil) PbT155
def PbE156 : Ent := ⟨161, (.cons (.ptr 40699 0) (.cons (nu 3) (.cons (nu 7) .nil))), ⟨[PbO228, PbO234], 41095⟩, (.agg (avs [(nu 8), (nu 0), (nu 0), (nu 0), (.str 0 0), (nu 0), (.sl 42451 0 1 8 true), (nu 11)])), ⟨[PbO228, PbO235, PbO233, PbO236], 42548⟩⟩
theorem PbT156 : Ent.check Tryz.prog known [(119, [PbE155])] 990 PbE156 = true := by kernel_rfl
theorem PbK156 {W : World} (hW : LibW W) : PbE156.Ok Tryz.prog (KG W) := Ent.ok_of mixed (known_ok hW) (Tab.ok_cons (f := 119) (Ent.ok_cons (PbK155 hW) Ent.ok_nil) Tab.ok_nil) PbT156
def PbE157 : Ent := ⟨161, (.cons (.ptr 40699 0) (.cons (nu 3) (.cons (nu 2) .nil))), ⟨[PbO228, PbO234], 41090⟩, (.agg (avs [(nu 8), (nu 0), (nu 0), (nu 0), (.str 0 0), (nu 0), (.sl 42451 0 1 8 true), (nu 11)])), ⟨[PbO228, PbO235, PbO233, PbO236], 42708⟩⟩
theorem PbT157 : Ent.check Tryz.prog known [(161, [PbE156])] 990 PbE157 = true := by kernel_rfl
theorem PbK157 {W : World} (hW : LibW W) : PbE157.Ok Tryz.prog (KG W) := Ent.ok_of mixed (known_ok hW) (Tab.ok_cons (f := 161) (Ent.ok_cons (PbK156 hW) Ent.ok_nil) Tab.ok_nil) PbT157
def PbE158 : Ent := ⟨50, (.cons (.ptr 40699 0) (.cons (nu 1) .nil)), ⟨[PbO228, PbO237], 40959⟩, (.sl 42843 0 1 9 false), ⟨[PbO228, PbO238, PbO233, PbO236, PbO239, PbO240], 42884⟩⟩
theorem PbT158 : Ent.check Tryz.prog known [(161, [PbE157])] 990 PbE158 = true := by kernel_rfl
theorem PbK158 {W : World} (hW : LibW W) : PbE158.Ok Tryz.prog (KG W) := Ent.ok_of mixed (known_ok hW) (Tab.ok_cons (f := 161) (Ent.ok_cons (PbK157 hW) Ent.ok_nil) Tab.ok_nil) PbT158
def PbE159 : Ent := ⟨15, (.cons (.str 17 PbS18) .nil), ⟨[], 43074⟩, (.tup (avs [(.sl 43143 0 11 4 false), (.agg (avs [(nu 0), (nu 0)]))])), ⟨[PbO241], 43144⟩⟩
theorem PbT159 : Ent.check Tryz.prog known [] 990 PbE159 = true := by kernel_rfl
theorem PbK159 {W : World} (hW : LibW W) : PbE159.Ok Tryz.prog (KG W) := Ent.ok_of mixed (known_ok hW) Tab.ok_nil PbT159
def PbE160 : Ent := ⟨161, (.cons (.ptr 43145 0) (.cons (nu 3) (.cons (nu 7) .nil))), ⟨[PbO241, PbO242], 43541⟩, (.agg (avs [(nu 4), (nu 0), (nu 0), (nu 0), (.str 0 0), (nu 0), (.sl 43791 0 1 8 true), (nu 11)])), ⟨[PbO241, PbO243, PbO244, PbO245], 43888⟩⟩
theorem PbT160 : Ent.check Tryz.prog known [] 990 PbE160 = true := by kernel_rfl
theorem PbK160 {W : World} (hW : LibW W) : PbE160.Ok Tryz.prog (KG W) := Ent.ok_of mixed (known_ok hW) Tab.ok_nil PbT160
def PbE161 : Ent := ⟨161, (.cons (.ptr 43145 0) (.cons (nu 3) (.cons (nu 2) .nil))), ⟨[PbO241, PbO242], 43536⟩, (.agg (avs [(nu 4), (nu 0), (nu 0), (nu 0), (.str 0 0), (nu 0), (.sl 43791 0 1 8 true), (nu 11)])), ⟨[PbO241, PbO243, PbO244, PbO245], 44048⟩⟩
theorem PbT161 : Ent.check Tryz.prog known [(161, [PbE160])] 990 PbE161 = true := by kernel_rfl
theorem PbK161 {W : World} (hW : LibW W) : PbE161.Ok Tryz.prog (KG W) := Ent.ok_of mixed (known_ok hW) (Tab.ok_cons (f := 161) (Ent.ok_cons (PbK160 hW) Ent.ok_nil) Tab.ok_nil) PbT161
def PbE162 : Ent := ⟨50, (.cons (.ptr 43145 0) (.cons (nu 1) .nil)), ⟨[PbO241, PbO246], 43405⟩, (.sl 44183 0 1 9 false), ⟨[PbO241, PbO247, PbO244, PbO245, PbO248, PbO249], 44224⟩⟩
theorem PbT162 : Ent.check Tryz.prog known [(161, [PbE161])] 990 PbE162 = true := by kernel_rfl
theorem PbK162 {W : World} (hW : LibW W) : PbE162.Ok Tryz.prog (KG W) := Ent.ok_of mixed (known_ok hW) (Tab.ok_cons (f := 161) (Ent.ok_cons (PbK161 hW) Ent.ok_nil) Tab.ok_nil) PbT162
def PbE163 : Ent := ⟨15, (.cons (.str 19 PbS19) .nil), ⟨[], 44252⟩, (.tup (avs [(.sl 44329 0 13 4 false), (.agg (avs [(nu 0), (nu 0)]))])), ⟨[PbO250], 44330⟩⟩
theorem PbT163 : Ent.check Tryz.prog known [] 990 PbE163 = true := by kernel_rfl
theorem PbK163 {W : World} (hW : LibW W) : PbE163.Ok Tryz.prog (KG W) := Ent.ok_of mixed (known_ok hW) Tab.ok_nil PbT163
def PbE164 : Ent := ⟨161, (.cons (.ptr 44331 0) (.cons (nu 5) (.cons (nu 7) .nil))), ⟨[PbO250, PbO251], 44893⟩, (.agg (avs [(nu 13), (nu 0), (nu 0), (nu 0), (.str 0 0), (nu 0), (.sl 45043 0 1 8 true), (nu 14)])), ⟨[PbO250, PbO252, PbO253], 45192⟩⟩
theorem PbT164 : Ent.check Tryz.prog known [] 990 PbE164 = true := by kernel_rfl
theorem PbK164 {W : World} (hW : LibW W) : PbE164.Ok Tryz.prog (KG W) := Ent.ok_of mixed (known_ok hW) Tab.ok_nil PbT164
def PbE165 : Ent := ⟨161, (.cons (.ptr 44331 0) (.cons (nu 5) (.cons (nu 2) .nil))), ⟨[PbO250, PbO251], 44888⟩, (.agg (avs [(nu 13), (nu 0), (nu 0), (nu 0), (.str 0 0), (nu 0), (.sl 45043 0 1 8 true), (nu 14)])), ⟨[PbO250, PbO252, PbO253], 45352⟩⟩
theorem PbT165 : Ent.check Tryz.prog known [(161, [PbE164])] 990 PbE165 = true := by kernel_rfl
theorem PbK165 {W : World} (hW : LibW W) : PbE165.Ok Tryz.prog (KG W) := Ent.ok_of mixed (known_ok hW) (Tab.ok_cons (f := 161) (Ent.ok_cons (PbK164 hW) Ent.ok_nil) Tab.ok_nil) PbT165
def PbE166 : Ent := ⟨188, (.cons (.ptr 44331 0) (.cons (nu 4) .nil)), ⟨[PbO250, PbO254], 44828⟩, (.agg (avs [(nu 13), (nu 0), (nu 0), (nu 0), (.str 0 0), (nu 0), (.sl 45043 0 1 8 true), (nu 14)])), ⟨[PbO250, PbO255, PbO253], 45540⟩⟩
theorem PbT166 : Ent.check Tryz.prog known [(161, [PbE165])] 990 PbE166 = true := by kernel_rfl
theorem PbK166 {W : World} (hW : LibW W) : PbE166.Ok Tryz.prog (KG W) := Ent.ok_of mixed (known_ok hW) (Tab.ok_cons (f := 161) (Ent.ok_cons (PbK165 hW) Ent.ok_nil) Tab.ok_nil) PbT166
def PbE167 : Ent := ⟨161, (.cons (.ptr 44331 0) (.cons (nu 3) (.cons (nu 6) .nil))), ⟨[PbO250, PbO256], 44726⟩, (.agg (avs [(nu 4), (nu 0), (nu 0), (nu 0), (.str 0 0), (nu 0), (.sl 45540 0 1 8 true), (nu 11)])), ⟨[PbO250, PbO255, PbO253, PbO257], 45669⟩⟩
theorem PbT167 : Ent.check Tryz.prog known [(188, [PbE166])] 990 PbE167 = true := by kernel_rfl
theorem PbK167 {W : World} (hW : LibW W) : PbE167.Ok Tryz.prog (KG W) := Ent.ok_of mixed (known_ok hW) (Tab.ok_cons (f := 188) (Ent.ok_cons (PbK166 hW) Ent.ok_nil) Tab.ok_nil) PbT167
def PbE168 : Ent := ⟨161, (.cons (.ptr 44331 0) (.cons (nu 3) (.cons (nu 1) .nil))), ⟨[PbO250, PbO256], 44721⟩, (.agg (avs [(nu 4), (nu 0), (nu 0), (nu 0), (.str 0 0), (nu 0), (.sl 45540 0 1 8 true), (nu 11)])), ⟨[PbO250, PbO255, PbO253, PbO257], 45829⟩⟩
theorem PbT168 : Ent.check Tryz.prog known [(161, [PbE167])] 990 PbE168 = true := by kernel_rfl
theorem PbK168 {W : World} (hW : LibW W) : PbE168.Ok Tryz.prog (KG W) := Ent.ok_of mixed (known_ok hW) (Tab.ok_cons (f := 161) (Ent.ok_cons (PbK167 hW) Ent.ok_nil) Tab.ok_nil) PbT168
def PbE169 : Ent := ⟨18, (.cons (.ptr 44331 0) (.cons (.ptr 44332 0) .nil)), ⟨[PbO250, PbO258, PbO259], 44345⟩, (.tup (avs [])), ⟨[PbO250, PbO260, PbO261, PbO253, PbO257, PbO262, PbO263, PbO264], 45985⟩⟩
theorem PbT169 : Ent.check Tryz.prog known [(161, [PbE168])] 990 PbE169 = true := by kernel_rfl
theorem PbK169 {W : World} (hW : LibW W) : PbE169.Ok Tryz.prog (KG W) := Ent.ok_of mixed (known_ok hW) (Tab.ok_cons (f := 161) (Ent.ok_cons (PbK168 hW) Ent.ok_nil) Tab.ok_nil) PbT169
def PbE170 : Ent := ⟨15, (.cons (.str 19 PbS20) .nil), ⟨[], 46141⟩, (.tup (avs [(.sl 46236 0 13 4 false), (.agg (avs [(nu 0), (nu 0)]))])), ⟨[PbO265], 46237⟩⟩
theorem PbT170 : Ent.check Tryz.prog known [] 990 PbE170 = true := by kernel_rfl
theorem PbK170 {W : World} (hW : LibW W) : PbE170.Ok Tryz.prog (KG W) := Ent.ok_of mixed (known_ok hW) Tab.ok_nil PbT170
def PbE171 : Ent := ⟨161, (.cons (.ptr 46238 0) (.cons (nu 3) (.cons (nu 8) .nil))), ⟨[PbO265, PbO266], 46907⟩, (.agg (avs [(nu 18), (nu 0), (nu 0), (nu 0), (.str 0 0), (nu 0), (.sl 47143 0 2 8 true), (nu 15)])), ⟨[PbO265, PbO267, PbO268], 47356⟩⟩
theorem PbT171 : Ent.check Tryz.prog known [] 990 PbE171 = true := by kernel_rfl
theorem PbK171 {W : World} (hW : LibW W) : PbE171.Ok Tryz.prog (KG W) := Ent.ok_of mixed (known_ok hW) Tab.ok_nil PbT171
def PbE172 : Ent := ⟨161, (.cons (.ptr 46238 0) (.cons (nu 3) (.cons (nu 6) .nil))), ⟨[PbO265, PbO269], 46633⟩, (.agg (avs [(nu 20), (nu 0), (nu 0), (nu 0), (.str 0 0), (nu 0), (.sl 46904 0 2 8 true), (nu 12)])), ⟨[PbO265, PbO267, PbO270, PbO268], 47419⟩⟩
theorem PbT172 : Ent.check Tryz.prog known [(161, [PbE171])] 990 PbE172 = true := by kernel_rfl
theorem PbK172 {W : World} (hW : LibW W) : PbE172.Ok Tryz.prog (KG W) := Ent.ok_of mixed (known_ok hW) (Tab.ok_cons (f := 161) (Ent.ok_cons (PbK171 hW) Ent.ok_nil) Tab.ok_nil) PbT172
def PbE173 : Ent := ⟨161, (.cons (.ptr 46238 0) (.cons (nu 3) (.cons (nu 1) .nil))), ⟨[PbO265, PbO269], 46628⟩, (.agg (avs [(nu 20), (nu 0), (nu 0), (nu 0), (.str 0 0), (nu 0), (.sl 46904 0 2 8 true), (nu 12)])), ⟨[PbO265, PbO267, PbO270, PbO268], 47579⟩⟩
theorem PbT173 : Ent.check Tryz.prog known [(161, [PbE172])] 990 PbE173 = true := by kernel_rfl
theorem PbK173 {W : World} (hW : LibW W) : PbE173.Ok Tryz.prog (KG W) := Ent.ok_of mixed (known_ok hW) (Tab.ok_cons (f := 161) (Ent.ok_cons (PbK172 hW) Ent.ok_nil) Tab.ok_nil) PbT173
def PbE174 : Ent := ⟨18, (.cons (.ptr 46238 0) (.cons (.ptr 46239 0) .nil)), ⟨[PbO265, PbO271, PbO272], 46252⟩, (.tup (avs [])), ⟨[PbO265, PbO273, PbO274, PbO270, PbO268, PbO275, PbO276, PbO277], 47735⟩⟩
theorem PbT174 : Ent.check Tryz.prog known [(161, [PbE173])] 990 PbE174 = true := by kernel_rfl
theorem PbK174 {W : World} (hW : LibW W) : PbE174.Ok Tryz.prog (KG W) := Ent.ok_of mixed (known_ok hW) (Tab.ok_cons (f := 161) (Ent.ok_cons (PbK173 hW) Ent.ok_nil) Tab.ok_nil) PbT174
def PbE175 : Ent := ⟨15, (.cons (.str 21 PbS21) .nil), ⟨[], 47751⟩, (.tup (avs [(.sl 47854 0 15 4 false), (.agg (avs [(nu 0), (nu 0)]))])), ⟨[PbO278], 47855⟩⟩
theorem PbT175 : Ent.check Tryz.prog known [] 990 PbE175 = true := by kernel_rfl
theorem PbK175 {W : World} (hW : LibW W) : PbE175.Ok Tryz.prog (KG W) := Ent.ok_of mixed (known_ok hW) Tab.ok_nil PbT175
def PbE176 : Ent := ⟨161, (.cons (.ptr 47856 0) (.cons (nu 4) (.cons (nu 8) .nil))), ⟨[PbO278, PbO279], 48644⟩, (.agg (avs [(nu 18), (nu 0), (nu 0), (nu 0), (.str 0 0), (nu 0), (.sl 48880 0 2 8 true), (nu 16)])), ⟨[PbO278, PbO280, PbO281], 49093⟩⟩
theorem PbT176 : Ent.check Tryz.prog known [] 990 PbE176 = true := by kernel_rfl
theorem PbK176 {W : World} (hW : LibW W) : PbE176.Ok Tryz.prog (KG W) := Ent.ok_of mixed (known_ok hW) Tab.ok_nil PbT176
def PbE177 : Ent := ⟨161, (.cons (.ptr 47856 0) (.cons (nu 4) (.cons (nu 3) .nil))), ⟨[PbO278, PbO279], 48639⟩, (.agg (avs [(nu 18), (nu 0), (nu 0), (nu 0), (.str 0 0), (nu 0), (.sl 48880 0 2 8 true), (nu 16)])), ⟨[PbO278, PbO280, PbO281], 49253⟩⟩
theorem PbT177 : Ent.check Tryz.prog known [(161, [PbE176])] 990 PbE177 = true := by kernel_rfl
theorem PbK177 {W : World} (hW : LibW W) : PbE177.Ok Tryz.prog (KG W) := Ent.ok_of mixed (known_ok hW) (Tab.ok_cons (f := 161) (Ent.ok_cons (PbK176 hW) Ent.ok_nil) Tab.ok_nil) PbT177
def PbE178 : Ent := ⟨119, (.cons (.ptr 47856 0) (.cons (nu 4) .nil)), ⟨[PbO278, PbO279], 48634⟩, (.agg (avs [(nu 18), (nu 0), (nu 0), (nu 0), (.str 0 0), (nu 0), (.sl 48880 0 2 8 true), (nu 16)])), ⟨[PbO278, PbO280, PbO281], 49391⟩⟩
theorem PbT178 : Ent.check Tryz.prog known [(161, [PbE177])] 990 PbE178 = true := by kernel_rfl
theorem PbK178 {W : World} (hW : LibW W) : PbE178.Ok Tryz.prog (KG W) := Ent.ok_of mixed (known_ok hW) (Tab.ok_cons (f := 161) (Ent.ok_cons (PbK177 hW) Ent.ok_nil) Tab.ok_nil) PbT178
def PbE179 : Ent := ⟨161, (.cons (.ptr 47856 0) (.cons (nu 3) (.cons (nu 7) .nil))), ⟨[PbO278, PbO282], 48252⟩, (.agg (avs [(nu 20), (nu 0), (nu 0), (nu 0), (.str 0 0), (nu 0), (.sl 48522 0 2 8 true), (nu 12)])), ⟨[PbO278, PbO283, PbO284, PbO281], 49568⟩⟩
theorem PbT179 : Ent.check Tryz.prog known [(119, [PbE178])] 990 PbE179 = true := by kernel_rfl
theorem PbK179 {W : World} (hW : LibW W) : PbE179.Ok Tryz.prog (KG W) := Ent.ok_of mixed (known_ok hW) (Tab.ok_cons (f := 119) (Ent.ok_cons (PbK178 hW) Ent.ok_nil) Tab.ok_nil) PbT179
def PbE180 : Ent := ⟨161, (.cons (.ptr 47856 0) (.cons (nu 3) (.cons (nu 2) .nil))), ⟨[PbO278, PbO282], 48247⟩, (.agg (avs [(nu 20), (nu 0), (nu 0), (nu 0), (.str 0 0), (nu 0), (.sl 48522 0 2 8 true), (nu 12)])), ⟨[PbO278, PbO283, PbO284, PbO281], 49728⟩⟩
theorem PbT180 : Ent.check Tryz.prog known [(161, [PbE179])] 990 PbE180 = true := by kernel_rfl
theorem PbK180 {W : World} (hW : LibW W) : PbE180.Ok Tryz.prog (KG W) := Ent.ok_of mixed (known_ok hW) (Tab.ok_cons (f := 161) (Ent.ok_cons (PbK179 hW) Ent.ok_nil) Tab.ok_nil) PbT180
def PbE181 : Ent := ⟨50, (.cons (.ptr 47856 0) (.cons (nu 1) .nil)), ⟨[PbO278, PbO285], 48116⟩, (.sl 49863 0 1 9 false), ⟨[PbO278, PbO286, PbO284, PbO281, PbO287, PbO288], 49904⟩⟩
theorem PbT181 : Ent.check Tryz.prog known [(161, [PbE180])] 990 PbE181 = true := by kernel_rfl
theorem PbK181 {W : World} (hW : LibW W) : PbE181.Ok Tryz.prog (KG W) := Ent.ok_of mixed (known_ok hW) (Tab.ok_cons (f := 161) (Ent.ok_cons (PbK180 hW) Ent.ok_nil) Tab.ok_nil) PbT181
def PbE182 : Ent := ⟨15, (.cons (.str 18 PbS22) .nil), ⟨[], 50116⟩, (.tup (avs [(.sl 50211 0 13 4 false), (.agg (avs [(nu 0), (nu 0)]))])), ⟨[PbO289], 50212⟩⟩
theorem PbT182 : Ent.check Tryz.prog known [] 990 PbE182 = true := by kernel_rfl
theorem PbK182 {W : World} (hW : LibW W) : PbE182.Ok Tryz.prog (KG W) := Ent.ok_of mixed (known_ok hW) Tab.ok_nil PbT182
def PbE183 : Ent := ⟨161, (.cons (.ptr 50213 0) (.cons (nu 3) (.cons (nu 9) .nil))), ⟨[PbO289, PbO290], 50611⟩, (.agg (avs [(nu 16), (nu 0), (nu 0), (nu 0), (.str 0 0), (nu 0), (.sl 51016 0 2 8 true), (nu 14)])), ⟨[PbO289, PbO291, PbO292, PbO293], 51196⟩⟩
theorem PbT183 : Ent.check Tryz.prog known [] 990 PbE183 = true := by kernel_rfl
theorem PbK183 {W : World} (hW : LibW W) : PbE183.Ok Tryz.prog (KG W) := Ent.ok_of mixed (known_ok hW) Tab.ok_nil PbT183
def PbE184 : Ent := ⟨161, (.cons (.ptr 50213 0) (.cons (nu 3) (.cons (nu 4) .nil))), ⟨[PbO289, PbO290], 50606⟩, (.agg (avs [(nu 16), (nu 0), (nu 0), (nu 0), (.str 0 0), (nu 0), (.sl 51016 0 2 8 true), (nu 14)])), ⟨[PbO289, PbO291, PbO292, PbO293], 51356⟩⟩
theorem PbT184 : Ent.check Tryz.prog known [(161, [PbE183])] 990 PbE184 = true := by kernel_rfl
theorem PbK184 {W : World} (hW : LibW W) : PbE184.Ok Tryz.prog (KG W) := Ent.ok_of mixed (known_ok hW) (Tab.ok_cons (f := 161) (Ent.ok_cons (PbK183 hW) Ent.ok_nil) Tab.ok_nil) PbT184
def PbE185 : Ent := ⟨119, (.cons (.ptr 50213 0) (.cons (nu 3) .nil)), ⟨[PbO289, PbO290], 50600⟩, (.agg (avs [(nu 16), (nu 0), (nu 0), (nu 0), (.str 0 0), (nu 0), (.sl 51016 0 2 8 true), (nu 14)])), ⟨[PbO289, PbO291, PbO292, PbO293], 51526⟩⟩
theorem PbT185 : Ent.check Tryz.prog known [(161, [PbE184])] 990 PbE185 = true := by kernel_rfl
theorem PbK185 {W : World} (hW : LibW W) : PbE185.Ok Tryz.prog (KG W) := Ent.ok_of mixed (known_ok hW) (Tab.ok_cons (f := 161) (Ent.ok_cons (PbK184 hW) Ent.ok_nil) Tab.ok_nil) PbT185
def PbE186 : Ent := ⟨5, (.cons (.str 18 PbS22) .nil), ⟨[], 50114⟩, (.tup (avs [(.agg (avs [.nils, (.sl 51607 0 1 8 false)])), (.agg (avs [(nu 0), (nu 0)]))])), ⟨[PbO292, PbO293, PbO294, PbO295, PbO296], 51620⟩⟩
theorem PbT186 : Ent.check Tryz.prog known [(15, [PbE182]), (119, [PbE185])] 990 PbE186 = true := by kernel_rfl
theorem PbK186 {W : World} (hW : LibW W) : PbE186.Ok Tryz.prog (KG W) := Ent.ok_of mixed (known_ok hW) (Tab.ok_cons (f := 15) (Ent.ok_cons (PbK182 hW) Ent.ok_nil) (Tab.ok_cons (f := 119) (Ent.ok_cons (PbK185 hW) Ent.ok_nil) Tab.ok_nil)) PbT186
end Go.Proofs.YtpepepkfjimoeaaGreatDoor

/- Calls that were proved one by one: what the evaluator says. -/
import Derived.Test.YtpepepkfjimoeaaGreatMnO
import Derived.Test.YtpepepkfjimoeaaGreatMnOx1
import Derived.Test.YtpepepkfjimoeaaGreatProg
import Derived.ProofKit
import Derived.Test.YtpepepkfjimoeaaGreatVh
import Derived.Test.YtpepepkfjimoeaaGreatMn8
namespace Go.Proofs.YtpepepkfjimoeaaGreat
open Go.Proofs.YtpepepkfjimoeaaGreat.Ev
set_option maxRecDepth 100000

def MnE84 : Ent := ⟨19, (.cons (.str 49 4934356586496140281958226698885885546471538987502534870608939114297234978122599408490212976271637959302765022989807209) .nil), ⟨[], 172825⟩, (.tup (avs [(.agg (avs [.nils, (.sl 188633 0 1 8 false)])), (.bool true)])), ⟨[MnO549, MnO550, MnO551, MnO552, MnO553, MnO554, MnO555, MnO556, MnO557], 189061⟩⟩
theorem MnT84 : Ent.check Tryz.prog [(22, [MnE79]), (87, [MnE80, MnE81, MnE83])] 990 MnE84 = true := by kernel_rfl
theorem MnK84 : MnE84.Ok Tryz.prog := Ent.ok_of mixed (Tab.ok_cons (f := 22) (Ent.ok_cons MnK79 Ent.ok_nil) (Tab.ok_cons (f := 87) (Ent.ok_cons MnK80 (Ent.ok_cons MnK81 (Ent.ok_cons MnK83 Ent.ok_nil))) Tab.ok_nil)) MnT84
def MnE85 : Ent := ⟨31, (.cons (.agg (avs [.nils, (.sl 188633 0 1 8 false)])) .nil), ⟨[MnO549, MnO550, MnO551, MnO552, MnO553, MnO554, MnO555, MnO556, MnO557], 189064⟩, (.bool true), ⟨[MnO549, MnO550, MnO551, MnO552, MnO553, MnO554, MnO555, MnO556, MnO557], 189604⟩⟩
theorem MnT85 : Ent.check Tryz.prog [] 990 MnE85 = true := by kernel_rfl
theorem MnK85 : MnE85.Ok Tryz.prog := Ent.ok_of mixed Tab.ok_nil MnT85
def MnE86 : Ent := ⟨22, (.cons (.str 49 4934356584328666464000051531896995782056073011195174980391446500511048762460473671979999596662642059188233869683093097) .nil), ⟨[], 190170⟩, (.tup (avs [(.sl 208871 0 29 4 false), (.agg (avs [(nu 0), (nu 0)]))])), ⟨[MnO558, MnO559, MnO560, MnO561, MnO562, MnO563, MnO564, MnO565, MnO566, MnO567, MnO568, MnO569, MnO570, MnO571, MnO572, MnO573, MnO574, MnO575, MnO576, MnO577, MnO578, MnO579, MnO580, MnO581, MnO582, MnO583, MnO584, MnO585, MnO586], 208872⟩⟩
theorem MnT86 : Ent.check Tryz.prog [] 990 MnE86 = true := by kernel_rfl
theorem MnK86 : MnE86.Ok Tryz.prog := Ent.ok_of mixed Tab.ok_nil MnT86
def MnE87 : Ent := ⟨171, (.cons (.ptr 208873 0) (.cons (nu 4) (.cons (nu 6) .nil))), ⟨[MnO558, MnO559, MnO560, MnO561, MnO562, MnO563, MnO564, MnO565, MnO566, MnO567, MnO568, MnO569, MnO570, MnO571, MnO572, MnO573, MnO574, MnO575, MnO576, MnO577, MnO578, MnO579, MnO580, MnO581, MnO582, MnO583, MnO584, MnO585, MnO586, MnO587], 208978⟩, (.agg (avs [(nu 22), (nu 0), (nu 0), (nu 0), (.str 0 0), (nu 0), (.sl 209214 0 2 8 true), (nu 17)])), ⟨[MnO558, MnO559, MnO560, MnO561, MnO562, MnO563, MnO564, MnO565, MnO566, MnO567, MnO568, MnO569, MnO570, MnO571, MnO572, MnO573, MnO574, MnO575, MnO576, MnO577, MnO578, MnO579, MnO580, MnO581, MnO582, MnO583, MnO584, MnO585, MnO586, MnO588, MnO589, MnO590], 209263⟩⟩
theorem MnT87 : Ent.check Tryz.prog [] 990 MnE87 = true := by kernel_rfl
theorem MnK87 : MnE87.Ok Tryz.prog := Ent.ok_of mixed Tab.ok_nil MnT87
def MnE88 : Ent := ⟨171, (.cons (.ptr 208873 0) (.cons (nu 3) (.cons (nu 4) .nil))), ⟨[MnO558, MnO559, MnO560, MnO561, MnO562, MnO563, MnO564, MnO565, MnO566, MnO567, MnO568, MnO569, MnO570, MnO571, MnO572, MnO573, MnO574, MnO575, MnO576, MnO577, MnO578, MnO579, MnO580, MnO581, MnO582, MnO583, MnO584, MnO585, MnO586, MnO591], 208929⟩, (.agg (avs [(nu 35), (nu 0), (nu 0), (nu 0), (.str 3 7632240), (nu 0), (.sl 209408 0 1 8 false), (nu 11)])), ⟨[MnO558, MnO559, MnO560, MnO561, MnO562, MnO563, MnO564, MnO565, MnO566, MnO567, MnO568, MnO569, MnO570, MnO571, MnO572, MnO573, MnO574, MnO575, MnO576, MnO577, MnO578, MnO579, MnO580, MnO581, MnO582, MnO583, MnO584, MnO585, MnO586, MnO592, MnO589, MnO590, MnO593], 209556⟩⟩
theorem MnT88 : Ent.check Tryz.prog [(171, [MnE87])] 990 MnE88 = true := by kernel_rfl
theorem MnK88 : MnE88.Ok Tryz.prog := Ent.ok_of mixed (Tab.ok_cons (f := 171) (Ent.ok_cons MnK87 Ent.ok_nil) Tab.ok_nil) MnT88
def MnE89 : Ent := ⟨87, (.cons (.ptr 208873 0) (.cons (nu 2) .nil)), ⟨[MnO558, MnO559, MnO560, MnO561, MnO562, MnO563, MnO564, MnO565, MnO566, MnO567, MnO568, MnO569, MnO570, MnO571, MnO572, MnO573, MnO574, MnO575, MnO576, MnO577, MnO578, MnO579, MnO580, MnO581, MnO582, MnO583, MnO584, MnO585, MnO586, MnO594], 209662⟩, (.agg (avs [(nu 2), (.sl 209968 0 1 8 true), .nils, (nu 6), (nu 0), (nu 0), (.str 1 97), (nu 0), (nu 21)])), ⟨[MnO558, MnO559, MnO560, MnO561, MnO562, MnO563, MnO564, MnO565, MnO566, MnO567, MnO568, MnO569, MnO570, MnO571, MnO572, MnO573, MnO574, MnO575, MnO576, MnO577, MnO578, MnO579, MnO580, MnO581, MnO582, MnO583, MnO584, MnO585, MnO586, MnO595, MnO596], 209972⟩⟩
theorem MnT89 : Ent.check Tryz.prog [] 990 MnE89 = true := by kernel_rfl
theorem MnK89 : MnE89.Ok Tryz.prog := Ent.ok_of mixed Tab.ok_nil MnT89
def MnE90 : Ent := ⟨171, (.cons (.ptr 208873 0) (.cons (nu 4) (.cons (nu 6) .nil))), ⟨[MnO558, MnO559, MnO560, MnO561, MnO562, MnO563, MnO564, MnO565, MnO566, MnO567, MnO568, MnO569, MnO570, MnO571, MnO572, MnO573, MnO574, MnO575, MnO576, MnO577, MnO578, MnO579, MnO580, MnO581, MnO582, MnO583, MnO584, MnO585, MnO586, MnO597], 210046⟩, (.agg (avs [(nu 22), (nu 0), (nu 0), (nu 0), (.str 0 0), (nu 0), (.sl 210284 0 2 8 true), (nu 44)])), ⟨[MnO558, MnO559, MnO560, MnO561, MnO562, MnO563, MnO564, MnO565, MnO566, MnO567, MnO568, MnO569, MnO570, MnO571, MnO572, MnO573, MnO574, MnO575, MnO576, MnO577, MnO578, MnO579, MnO580, MnO581, MnO582, MnO583, MnO584, MnO585, MnO586, MnO598, MnO599, MnO600], 210333⟩⟩
theorem MnT90 : Ent.check Tryz.prog [] 990 MnE90 = true := by kernel_rfl
theorem MnK90 : MnE90.Ok Tryz.prog := Ent.ok_of mixed Tab.ok_nil MnT90
def MnE91 : Ent := ⟨171, (.cons (.ptr 208873 0) (.cons (nu 3) (.cons (nu 4) .nil))), ⟨[MnO558, MnO559, MnO560, MnO561, MnO562, MnO563, MnO564, MnO565, MnO566, MnO567, MnO568, MnO569, MnO570, MnO571, MnO572, MnO573, MnO574, MnO575, MnO576, MnO577, MnO578, MnO579, MnO580, MnO581, MnO582, MnO583, MnO584, MnO585, MnO586, MnO595], 209997⟩, (.agg (avs [(nu 35), (nu 0), (nu 0), (nu 0), (.str 3 7632240), (nu 0), (.sl 210478 0 1 8 false), (nu 38)])), ⟨[MnO558, MnO559, MnO560, MnO561, MnO562, MnO563, MnO564, MnO565, MnO566, MnO567, MnO568, MnO569, MnO570, MnO571, MnO572, MnO573, MnO574, MnO575, MnO576, MnO577, MnO578, MnO579, MnO580, MnO581, MnO582, MnO583, MnO584, MnO585, MnO586, MnO601, MnO599, MnO600, MnO602], 210626⟩⟩
theorem MnT91 : Ent.check Tryz.prog [(171, [MnE90])] 990 MnE91 = true := by kernel_rfl
theorem MnK91 : MnE91.Ok Tryz.prog := Ent.ok_of mixed (Tab.ok_cons (f := 171) (Ent.ok_cons MnK90 Ent.ok_nil) Tab.ok_nil) MnT91
def MnE92 : Ent := ⟨48, (.cons (.ptr 208873 0) (.cons (nu 1) .nil)), ⟨[MnO558, MnO559, MnO560, MnO561, MnO562, MnO563, MnO564, MnO565, MnO566, MnO567, MnO568, MnO569, MnO570, MnO571, MnO572, MnO573, MnO574, MnO575, MnO576, MnO577, MnO578, MnO579, MnO580, MnO581, MnO582, MnO583, MnO584, MnO585, MnO586, MnO603], 208903⟩, (.sl 210730 0 3 9 false), ⟨[MnO558, MnO559, MnO560, MnO561, MnO562, MnO563, MnO564, MnO565, MnO566, MnO567, MnO568, MnO569, MnO570, MnO571, MnO572, MnO573, MnO574, MnO575, MnO576, MnO577, MnO578, MnO579, MnO580, MnO581, MnO582, MnO583, MnO584, MnO585, MnO586, MnO604, MnO589, MnO590, MnO593, MnO605, MnO606, MnO596, MnO607, MnO599, MnO600, MnO602, MnO608, MnO609], 210735⟩⟩
theorem MnT92 : Ent.check Tryz.prog [(171, [MnE88, MnE91]), (87, [MnE89])] 990 MnE92 = true := by kernel_rfl
theorem MnK92 : MnE92.Ok Tryz.prog := Ent.ok_of mixed (Tab.ok_cons (f := 171) (Ent.ok_cons MnK88 (Ent.ok_cons MnK91 Ent.ok_nil)) (Tab.ok_cons (f := 87) (Ent.ok_cons MnK89 Ent.ok_nil) Tab.ok_nil)) MnT92
def MnE93 : Ent := ⟨105, (.cons (.ptr 210832 0) (.cons (.sl 210829 0 3 9 false) .nil)), ⟨[MnO610, MnO611, MnO612, MnO613, MnO614, MnO615, MnO616, MnO617, MnO618, MnO619, MnO620, MnO621, MnO622, MnO623, MnO624, MnO625, MnO626], 210860⟩, (.tup (avs [])), ⟨[MnO627, MnO628, MnO629, MnO630, MnO631, MnO632, MnO633, MnO634, MnO635, MnO636, MnO637, MnO638, MnO639, MnO640, MnO641], 211246⟩⟩
theorem MnT93 : Ent.check Tryz.prog [] 990 MnE93 = true := by kernel_rfl
theorem MnK93 : MnE93.Ok Tryz.prog := Ent.ok_of mixed Tab.ok_nil MnT93
end Go.Proofs.YtpepepkfjimoeaaGreat

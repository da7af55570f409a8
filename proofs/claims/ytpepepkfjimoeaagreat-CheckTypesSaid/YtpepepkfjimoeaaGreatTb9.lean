/- Calls that were proved one by one: what the evaluator says. -/
import Derived.Test.YtpepepkfjimoeaaGreatTbO
import Derived.Test.YtpepepkfjimoeaaGreatProg
import Derived.ProofKit
import Derived.Test.YtpepepkfjimoeaaGreatVh
namespace Go.Proofs.YtpepepkfjimoeaaGreat
open Go.Proofs.YtpepepkfjimoeaaGreat.Ev
set_option maxRecDepth 100000

def TbE87 : Ent := ⟨22, (.cons (.str 28 13214701861958445062513064202450111344623830918915479311022722149993) .nil), ⟨[], 237646⟩, (.tup (avs [(.sl 249595 0 15 4 false), (.agg (avs [(nu 0), (nu 0)]))])), ⟨[TbO545, TbO546, TbO547, TbO548, TbO549, TbO550, TbO551, TbO552, TbO553, TbO554, TbO555, TbO556, TbO557, TbO558, TbO559], 249596⟩⟩
theorem TbT87 : Ent.check Tryz.prog [] 990 TbE87 = true := by kernel_rfl
theorem TbK87 : TbE87.Ok Tryz.prog := Ent.ok_of mixed Tab.ok_nil TbT87
def TbE88 : Ent := ⟨23, (.cons (.ptr 249597 0) .nil), ⟨[TbO545, TbO546, TbO547, TbO548, TbO549, TbO550, TbO551, TbO552, TbO553, TbO554, TbO555, TbO556, TbO557, TbO558, TbO559, TbO560], 249598⟩, (.tup (avs [])), ⟨[TbO545, TbO546, TbO547, TbO548, TbO549, TbO550, TbO551, TbO552, TbO553, TbO554, TbO555, TbO556, TbO557, TbO558, TbO559, TbO561, TbO562, TbO563], 249672⟩⟩
theorem TbT88 : Ent.check Tryz.prog [] 990 TbE88 = true := by kernel_rfl
theorem TbK88 : TbE88.Ok Tryz.prog := Ent.ok_of mixed Tab.ok_nil TbT88
def TbE89 : Ent := ⟨22, (.cons (.str 25 786089203533366852125829178810377971332750149929432121634409) .nil), ⟨[], 249885⟩, (.tup (avs [(.sl 258749 0 14 4 false), (.agg (avs [(nu 0), (nu 0)]))])), ⟨[TbO564, TbO565, TbO566, TbO567, TbO568, TbO569, TbO570, TbO571, TbO572, TbO573, TbO574, TbO575, TbO576, TbO577], 258750⟩⟩
theorem TbT89 : Ent.check Tryz.prog [] 990 TbE89 = true := by kernel_rfl
theorem TbK89 : TbE89.Ok Tryz.prog := Ent.ok_of mixed Tab.ok_nil TbT89
def TbE90 : Ent := ⟨171, (.cons (.ptr 258751 0) (.cons (nu 3) (.cons (nu 3) .nil))), ⟨[TbO564, TbO565, TbO566, TbO567, TbO568, TbO569, TbO570, TbO571, TbO572, TbO573, TbO574, TbO575, TbO576, TbO577, TbO578], 258809⟩, (.agg (avs [(nu 1), (nu 0), (nu 0), (nu 0), (.str 0 0), (nu 1), .nils, (nu 18)])), ⟨[TbO564, TbO565, TbO566, TbO567, TbO568, TbO569, TbO570, TbO571, TbO572, TbO573, TbO574, TbO575, TbO576, TbO577, TbO579], 259002⟩⟩
theorem TbT90 : Ent.check Tryz.prog [] 990 TbE90 = true := by kernel_rfl
theorem TbK90 : TbE90.Ok Tryz.prog := Ent.ok_of mixed Tab.ok_nil TbT90
def TbE91 : Ent := ⟨171, (.cons (.ptr 258751 0) (.cons (nu 4) (.cons (nu 3) .nil))), ⟨[TbO564, TbO565, TbO566, TbO567, TbO568, TbO569, TbO570, TbO571, TbO572, TbO573, TbO574, TbO575, TbO576, TbO577, TbO580], 259081⟩, (.agg (avs [(nu 1), (nu 0), (nu 0), (nu 0), (.str 0 0), (nu 0), .nils, (nu 20)])), ⟨[TbO564, TbO565, TbO566, TbO567, TbO568, TbO569, TbO570, TbO571, TbO572, TbO573, TbO574, TbO575, TbO576, TbO577, TbO581], 259274⟩⟩
theorem TbT91 : Ent.check Tryz.prog [] 990 TbE91 = true := by kernel_rfl
theorem TbK91 : TbE91.Ok Tryz.prog := Ent.ok_of mixed Tab.ok_nil TbT91
def TbE92 : Ent := ⟨171, (.cons (.ptr 258751 0) (.cons (nu 4) (.cons (nu 3) .nil))), ⟨[TbO564, TbO565, TbO566, TbO567, TbO568, TbO569, TbO570, TbO571, TbO572, TbO573, TbO574, TbO575, TbO576, TbO577, TbO582], 259358⟩, (.agg (avs [(nu 1), (nu 0), (nu 0), (nu 0), (.str 0 0), (nu 2), .nils, (nu 22)])), ⟨[TbO564, TbO565, TbO566, TbO567, TbO568, TbO569, TbO570, TbO571, TbO572, TbO573, TbO574, TbO575, TbO576, TbO577, TbO583], 259551⟩⟩
theorem TbT92 : Ent.check Tryz.prog [] 990 TbE92 = true := by kernel_rfl
theorem TbK92 : TbE92.Ok Tryz.prog := Ent.ok_of mixed Tab.ok_nil TbT92
def TbE93 : Ent := ⟨114, (.cons (.ptr 258751 0) (.cons (nu 3) .nil)), ⟨[TbO564, TbO565, TbO566, TbO567, TbO568, TbO569, TbO570, TbO571, TbO572, TbO573, TbO574, TbO575, TbO576, TbO577, TbO578], 258804⟩, (.agg (avs [(nu 33), (nu 0), (nu 0), (nu 0), (.str 0 0), (nu 0), (.sl 259624 0 3 8 true), (nu 19)])), ⟨[TbO564, TbO565, TbO566, TbO567, TbO568, TbO569, TbO570, TbO571, TbO572, TbO573, TbO574, TbO575, TbO576, TbO577, TbO583, TbO584], 259629⟩⟩
theorem TbT93 : Ent.check Tryz.prog [(171, [TbE90, TbE91, TbE92])] 990 TbE93 = true := by kernel_rfl
theorem TbK93 : TbE93.Ok Tryz.prog := Ent.ok_of mixed (Tab.ok_cons (f := 171) (Ent.ok_cons TbK90 (Ent.ok_cons TbK91 (Ent.ok_cons TbK92 Ent.ok_nil))) Tab.ok_nil) TbT93
def TbE94 : Ent := ⟨23, (.cons (.ptr 258751 0) .nil), ⟨[TbO564, TbO565, TbO566, TbO567, TbO568, TbO569, TbO570, TbO571, TbO572, TbO573, TbO574, TbO575, TbO576, TbO577, TbO585], 258752⟩, (.tup (avs [])), ⟨[TbO564, TbO565, TbO566, TbO567, TbO568, TbO569, TbO570, TbO571, TbO572, TbO573, TbO574, TbO575, TbO576, TbO577, TbO586, TbO584, TbO587, TbO588, TbO589], 259653⟩⟩
theorem TbT94 : Ent.check Tryz.prog [(114, [TbE93])] 990 TbE94 = true := by kernel_rfl
theorem TbK94 : TbE94.Ok Tryz.prog := Ent.ok_of mixed (Tab.ok_cons (f := 114) (Ent.ok_cons TbK93 Ent.ok_nil) Tab.ok_nil) TbT94
def TbE95 : Ent := ⟨22, (.cons (.str 30 864314010384854002381193085425750360055110035338700487928593907442806377) .nil), ⟨[], 259869⟩, (.tup (avs [(.sl 268723 0 16 4 false), (.agg (avs [(nu 0), (nu 0)]))])), ⟨[TbO590, TbO591, TbO592, TbO593, TbO594, TbO595, TbO596, TbO597, TbO598, TbO599, TbO600, TbO601, TbO602, TbO603, TbO604, TbO605], 268724⟩⟩
theorem TbT95 : Ent.check Tryz.prog [] 990 TbE95 = true := by kernel_rfl
theorem TbK95 : TbE95.Ok Tryz.prog := Ent.ok_of mixed Tab.ok_nil TbT95
end Go.Proofs.YtpepepkfjimoeaaGreat

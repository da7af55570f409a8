/- Calls that were proved one by one: what the evaluator says. -/
import Derived.Test.YtpepepkfjimoeaaGreatMnO
import Derived.Test.YtpepepkfjimoeaaGreatMnOx1
import Derived.Test.YtpepepkfjimoeaaGreatProg
import Derived.ProofKit
import Derived.Test.YtpepepkfjimoeaaGreatVh
import Derived.Test.YtpepepkfjimoeaaGreatMn7
namespace Go.Proofs.YtpepepkfjimoeaaGreat
open Go.Proofs.YtpepepkfjimoeaaGreat.Ev
set_option maxRecDepth 100000

def MnE73 : Ent := ⟨87, (.cons (.ptr 170276 0) (.cons (nu 2) .nil)), ⟨[MnO476, MnO477, MnO478, MnO479, MnO480, MnO481, MnO482, MnO483, MnO484, MnO485, MnO486, MnO487, MnO488, MnO489, MnO490, MnO491, MnO492, MnO493, MnO494, MnO495, MnO496, MnO497], 170310⟩, (.agg (avs [(nu 2), (.sl 170614 0 1 8 true), .nils, (nu 2), (nu 0), (nu 0), (.str 1 97), (nu 0), (nu 11)])), ⟨[MnO476, MnO477, MnO478, MnO479, MnO480, MnO481, MnO482, MnO483, MnO484, MnO485, MnO486, MnO487, MnO488, MnO489, MnO490, MnO491, MnO492, MnO493, MnO494, MnO495, MnO496, MnO498, MnO499], 170618⟩⟩
theorem MnT73 : Ent.check Tryz.prog [] 990 MnE73 = true := by kernel_rfl
theorem MnK73 : MnE73.Ok Tryz.prog := Ent.ok_of mixed Tab.ok_nil MnT73
def MnE74 : Ent := ⟨87, (.cons (.ptr 170276 0) (.cons (nu 2) .nil)), ⟨[MnO476, MnO477, MnO478, MnO479, MnO480, MnO481, MnO482, MnO483, MnO484, MnO485, MnO486, MnO487, MnO488, MnO489, MnO490, MnO491, MnO492, MnO493, MnO494, MnO495, MnO496, MnO498], 170621⟩, (.agg (avs [(nu 1), (.sl 170919 0 1 8 true), .nils, (nu 0), (nu 0), (nu 0), (.str 0 0), (nu 0), (nu 31)])), ⟨[MnO476, MnO477, MnO478, MnO479, MnO480, MnO481, MnO482, MnO483, MnO484, MnO485, MnO486, MnO487, MnO488, MnO489, MnO490, MnO491, MnO492, MnO493, MnO494, MnO495, MnO496, MnO500, MnO501, MnO502], 170923⟩⟩
theorem MnT74 : Ent.check Tryz.prog [] 990 MnE74 = true := by kernel_rfl
theorem MnK74 : MnE74.Ok Tryz.prog := Ent.ok_of mixed Tab.ok_nil MnT74
def MnE75 : Ent := ⟨222, (.cons (.ptr 170276 0) (.cons (nu 3) .nil)), ⟨[MnO476, MnO477, MnO478, MnO479, MnO480, MnO481, MnO482, MnO483, MnO484, MnO485, MnO486, MnO487, MnO488, MnO489, MnO490, MnO491, MnO492, MnO493, MnO494, MnO495, MnO496, MnO500], 170968⟩, (.agg (avs [(nu 35), (nu 0), (nu 0), (nu 0), (.str 3 7632240), (nu 0), (.sl 171265 0 1 8 false), (nu 35)])), ⟨[MnO476, MnO477, MnO478, MnO479, MnO480, MnO481, MnO482, MnO483, MnO484, MnO485, MnO486, MnO487, MnO488, MnO489, MnO490, MnO491, MnO492, MnO493, MnO494, MnO495, MnO496, MnO503, MnO504], 171275⟩⟩
theorem MnT75 : Ent.check Tryz.prog [] 990 MnE75 = true := by kernel_rfl
theorem MnK75 : MnE75.Ok Tryz.prog := Ent.ok_of mixed Tab.ok_nil MnT75
def MnE76 : Ent := ⟨87, (.cons (.ptr 170276 0) (.cons (nu 2) .nil)), ⟨[MnO476, MnO477, MnO478, MnO479, MnO480, MnO481, MnO482, MnO483, MnO484, MnO485, MnO486, MnO487, MnO488, MnO489, MnO490, MnO491, MnO492, MnO493, MnO494, MnO495, MnO496, MnO500], 170926⟩, (.agg (avs [(nu 1), (.sl 171512 0 1 8 true), .nils, (nu 0), (nu 0), (nu 0), (.str 0 0), (nu 0), (nu 35)])), ⟨[MnO476, MnO477, MnO478, MnO479, MnO480, MnO481, MnO482, MnO483, MnO484, MnO485, MnO486, MnO487, MnO488, MnO489, MnO490, MnO491, MnO492, MnO493, MnO494, MnO495, MnO496, MnO505, MnO504, MnO506], 171516⟩⟩
theorem MnT76 : Ent.check Tryz.prog [(222, [MnE75])] 990 MnE76 = true := by kernel_rfl
theorem MnK76 : MnE76.Ok Tryz.prog := Ent.ok_of mixed (Tab.ok_cons (f := 222) (Ent.ok_cons MnK75 Ent.ok_nil) Tab.ok_nil) MnT76
def MnE77 : Ent := ⟨19, (.cons (.str 43 17530356132580485348114302455437909331645883918235996828534715085512238480549591175122260165702435761769) .nil), ⟨[], 157531⟩, (.tup (avs [(.agg (avs [.nils, (.sl 171588 0 1 8 false)])), (.bool true)])), ⟨[MnO507, MnO508, MnO509, MnO510, MnO511, MnO512, MnO513, MnO514], 171903⟩⟩
theorem MnT77 : Ent.check Tryz.prog [(22, [MnE72]), (87, [MnE73, MnE74, MnE76])] 990 MnE77 = true := by kernel_rfl
theorem MnK77 : MnE77.Ok Tryz.prog := Ent.ok_of mixed (Tab.ok_cons (f := 22) (Ent.ok_cons MnK72 Ent.ok_nil) (Tab.ok_cons (f := 87) (Ent.ok_cons MnK73 (Ent.ok_cons MnK74 (Ent.ok_cons MnK76 Ent.ok_nil))) Tab.ok_nil)) MnT77
def MnE78 : Ent := ⟨31, (.cons (.agg (avs [.nils, (.sl 171588 0 1 8 false)])) .nil), ⟨[MnO507, MnO508, MnO509, MnO510, MnO511, MnO512, MnO513, MnO514], 171906⟩, (.bool true), ⟨[MnO507, MnO508, MnO509, MnO510, MnO511, MnO512, MnO513, MnO514], 172332⟩⟩
theorem MnT78 : Ent.check Tryz.prog [] 990 MnE78 = true := by kernel_rfl
theorem MnK78 : MnE78.Ok Tryz.prog := Ent.ok_of mixed Tab.ok_nil MnT78
def MnE79 : Ent := ⟨22, (.cons (.str 49 4934356586496140281958226698885885546471538987502534870608939114297234978122599408490212976271637959302765022989807209) .nil), ⟨[], 172828⟩, (.tup (avs [(.sl 187303 0 24 4 false), (.agg (avs [(nu 0), (nu 0)]))])), ⟨[MnO515, MnO516, MnO517, MnO518, MnO519, MnO520, MnO521, MnO522, MnO523, MnO524, MnO525, MnO526, MnO527, MnO528, MnO529, MnO530, MnO531, MnO532, MnO533, MnO534, MnO535, MnO536, MnO537, MnO538], 187304⟩⟩
theorem MnT79 : Ent.check Tryz.prog [] 990 MnE79 = true := by kernel_rfl
theorem MnK79 : MnE79.Ok Tryz.prog := Ent.ok_of mixed Tab.ok_nil MnT79
def MnE80 : Ent := ⟨87, (.cons (.ptr 187305 0) (.cons (nu 2) .nil)), ⟨[MnO515, MnO516, MnO517, MnO518, MnO519, MnO520, MnO521, MnO522, MnO523, MnO524, MnO525, MnO526, MnO527, MnO528, MnO529, MnO530, MnO531, MnO532, MnO533, MnO534, MnO535, MnO536, MnO537, MnO538, MnO539], 187339⟩, (.agg (avs [(nu 2), (.sl 187650 0 1 8 true), .nils, (nu 3), (nu 0), (nu 0), (.str 1 97), (nu 0), (nu 11)])), ⟨[MnO515, MnO516, MnO517, MnO518, MnO519, MnO520, MnO521, MnO522, MnO523, MnO524, MnO525, MnO526, MnO527, MnO528, MnO529, MnO530, MnO531, MnO532, MnO533, MnO534, MnO535, MnO536, MnO537, MnO538, MnO540, MnO541, MnO542], 187654⟩⟩
theorem MnT80 : Ent.check Tryz.prog [] 990 MnE80 = true := by kernel_rfl
theorem MnK80 : MnE80.Ok Tryz.prog := Ent.ok_of mixed Tab.ok_nil MnT80
def MnE81 : Ent := ⟨87, (.cons (.ptr 187305 0) (.cons (nu 2) .nil)), ⟨[MnO515, MnO516, MnO517, MnO518, MnO519, MnO520, MnO521, MnO522, MnO523, MnO524, MnO525, MnO526, MnO527, MnO528, MnO529, MnO530, MnO531, MnO532, MnO533, MnO534, MnO535, MnO536, MnO537, MnO538, MnO540], 187657⟩, (.agg (avs [(nu 2), (.sl 187964 0 1 8 true), .nils, (nu 4), (nu 0), (nu 0), (.str 1 98), (nu 0), (nu 22)])), ⟨[MnO515, MnO516, MnO517, MnO518, MnO519, MnO520, MnO521, MnO522, MnO523, MnO524, MnO525, MnO526, MnO527, MnO528, MnO529, MnO530, MnO531, MnO532, MnO533, MnO534, MnO535, MnO536, MnO537, MnO538, MnO543, MnO544], 187968⟩⟩
theorem MnT81 : Ent.check Tryz.prog [] 990 MnE81 = true := by kernel_rfl
theorem MnK81 : MnE81.Ok Tryz.prog := Ent.ok_of mixed Tab.ok_nil MnT81
def MnE82 : Ent := ⟨222, (.cons (.ptr 187305 0) (.cons (nu 3) .nil)), ⟨[MnO515, MnO516, MnO517, MnO518, MnO519, MnO520, MnO521, MnO522, MnO523, MnO524, MnO525, MnO526, MnO527, MnO528, MnO529, MnO530, MnO531, MnO532, MnO533, MnO534, MnO535, MnO536, MnO537, MnO538, MnO543], 188013⟩, (.agg (avs [(nu 35), (nu 0), (nu 0), (nu 0), (.str 3 7632240), (nu 0), (.sl 188310 0 1 8 false), (nu 41)])), ⟨[MnO515, MnO516, MnO517, MnO518, MnO519, MnO520, MnO521, MnO522, MnO523, MnO524, MnO525, MnO526, MnO527, MnO528, MnO529, MnO530, MnO531, MnO532, MnO533, MnO534, MnO535, MnO536, MnO537, MnO538, MnO545, MnO546], 188320⟩⟩
theorem MnT82 : Ent.check Tryz.prog [] 990 MnE82 = true := by kernel_rfl
theorem MnK82 : MnE82.Ok Tryz.prog := Ent.ok_of mixed Tab.ok_nil MnT82
def MnE83 : Ent := ⟨87, (.cons (.ptr 187305 0) (.cons (nu 2) .nil)), ⟨[MnO515, MnO516, MnO517, MnO518, MnO519, MnO520, MnO521, MnO522, MnO523, MnO524, MnO525, MnO526, MnO527, MnO528, MnO529, MnO530, MnO531, MnO532, MnO533, MnO534, MnO535, MnO536, MnO537, MnO538, MnO543], 187971⟩, (.agg (avs [(nu 1), (.sl 188557 0 1 8 true), .nils, (nu 0), (nu 0), (nu 0), (.str 0 0), (nu 0), (nu 41)])), ⟨[MnO515, MnO516, MnO517, MnO518, MnO519, MnO520, MnO521, MnO522, MnO523, MnO524, MnO525, MnO526, MnO527, MnO528, MnO529, MnO530, MnO531, MnO532, MnO533, MnO534, MnO535, MnO536, MnO537, MnO538, MnO547, MnO546, MnO548], 188561⟩⟩
theorem MnT83 : Ent.check Tryz.prog [(222, [MnE82])] 990 MnE83 = true := by kernel_rfl
theorem MnK83 : MnE83.Ok Tryz.prog := Ent.ok_of mixed (Tab.ok_cons (f := 222) (Ent.ok_cons MnK82 Ent.ok_nil) Tab.ok_nil) MnT83
end Go.Proofs.YtpepepkfjimoeaaGreat

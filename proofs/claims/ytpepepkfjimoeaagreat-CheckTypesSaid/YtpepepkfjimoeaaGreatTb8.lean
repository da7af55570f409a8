/- Calls that were proved one by one: what the evaluator says. -/
import Derived.Test.YtpepepkfjimoeaaGreatTbO
import Derived.Test.YtpepepkfjimoeaaGreatProg
import Derived.ProofKit
import Derived.Test.YtpepepkfjimoeaaGreatVh
namespace Go.Proofs.YtpepepkfjimoeaaGreat
open Go.Proofs.YtpepepkfjimoeaaGreat.Ev
set_option maxRecDepth 100000

def TbE77 : Ent := ⟨17, (.cons (.agg (avs [.nils, (.sl 208522 0 2 8 false)])) .nil), ⟨[TbO473, TbO481, TbO478, TbO480, TbO482, TbO483], 208525⟩, (.tup (avs [(.agg (avs [.nils, (.sl 208540 0 2 8 false)])), (.agg (avs [(nu 0), (nu 0)]))])), ⟨[TbO473, TbO481, TbO478, TbO480, TbO482, TbO483, TbO484, TbO485, TbO486, TbO487, TbO488, TbO489], 208789⟩⟩
theorem TbT77 : Ent.check Tryz.prog [] 990 TbE77 = true := by kernel_rfl
theorem TbK77 : TbE77.Ok Tryz.prog := Ent.ok_of mixed Tab.ok_nil TbT77
def TbE78 : Ent := ⟨22, (.cons (.str 31 221264196666494055743334121285902691455104274691475051948685758437774356073) .nil), ⟨[], 208805⟩, (.tup (avs [(.sl 224081 0 21 4 false), (.agg (avs [(nu 0), (nu 0)]))])), ⟨[TbO490, TbO491, TbO492, TbO493, TbO494, TbO495, TbO496, TbO497, TbO498, TbO499, TbO500, TbO501, TbO502, TbO503, TbO504, TbO505, TbO506, TbO507, TbO508, TbO509, TbO510], 224082⟩⟩
theorem TbT78 : Ent.check Tryz.prog [] 990 TbE78 = true := by kernel_rfl
theorem TbK78 : TbE78.Ok Tryz.prog := Ent.ok_of mixed Tab.ok_nil TbT78
def TbE79 : Ent := ⟨171, (.cons (.ptr 224083 0) (.cons (nu 4) (.cons (nu 3) .nil))), ⟨[TbO490, TbO491, TbO492, TbO493, TbO494, TbO495, TbO496, TbO497, TbO498, TbO499, TbO500, TbO501, TbO502, TbO503, TbO504, TbO505, TbO506, TbO507, TbO508, TbO509, TbO510, TbO511, TbO512, TbO513], 224264⟩, (.agg (avs [(nu 1), (nu 0), (nu 0), (nu 0), (.str 0 0), (nu 1), .nils, (nu 27)])), ⟨[TbO490, TbO491, TbO492, TbO493, TbO494, TbO495, TbO496, TbO497, TbO498, TbO499, TbO500, TbO501, TbO502, TbO503, TbO504, TbO505, TbO506, TbO507, TbO508, TbO509, TbO510, TbO514, TbO512, TbO513], 224457⟩⟩
theorem TbT79 : Ent.check Tryz.prog [] 990 TbE79 = true := by kernel_rfl
theorem TbK79 : TbE79.Ok Tryz.prog := Ent.ok_of mixed Tab.ok_nil TbT79
def TbE80 : Ent := ⟨171, (.cons (.ptr 224083 0) (.cons (nu 3) (.cons (nu 10) .nil))), ⟨[TbO490, TbO491, TbO492, TbO493, TbO494, TbO495, TbO496, TbO497, TbO498, TbO499, TbO500, TbO501, TbO502, TbO503, TbO504, TbO505, TbO506, TbO507, TbO508, TbO509, TbO510, TbO515, TbO512, TbO513], 224224⟩, (.agg (avs [(nu 35), (nu 0), (nu 0), (nu 0), (.str 1 102), (nu 0), (.sl 224533 0 1 8 false), (nu 25)])), ⟨[TbO490, TbO491, TbO492, TbO493, TbO494, TbO495, TbO496, TbO497, TbO498, TbO499, TbO500, TbO501, TbO502, TbO503, TbO504, TbO505, TbO506, TbO507, TbO508, TbO509, TbO510, TbO516, TbO512, TbO513, TbO517], 224543⟩⟩
theorem TbT80 : Ent.check Tryz.prog [(171, [TbE79])] 990 TbE80 = true := by kernel_rfl
theorem TbK80 : TbE80.Ok Tryz.prog := Ent.ok_of mixed (Tab.ok_cons (f := 171) (Ent.ok_cons TbK79 Ent.ok_nil) Tab.ok_nil) TbT80
def TbE81 : Ent := ⟨87, (.cons (.ptr 224083 0) (.cons (nu 2) .nil)), ⟨[TbO490, TbO491, TbO492, TbO493, TbO494, TbO495, TbO496, TbO497, TbO498, TbO499, TbO500, TbO501, TbO502, TbO503, TbO504, TbO505, TbO506, TbO507, TbO508, TbO509, TbO510, TbO515, TbO512, TbO513], 224196⟩, (.agg (avs [(nu 1), (.sl 224780 0 1 8 true), .nils, (nu 0), (nu 0), (nu 0), (.str 0 0), (nu 0), (nu 25)])), ⟨[TbO490, TbO491, TbO492, TbO493, TbO494, TbO495, TbO496, TbO497, TbO498, TbO499, TbO500, TbO501, TbO502, TbO503, TbO504, TbO505, TbO506, TbO507, TbO508, TbO509, TbO510, TbO518, TbO512, TbO513, TbO517, TbO519], 224784⟩⟩
theorem TbT81 : Ent.check Tryz.prog [(171, [TbE80])] 990 TbE81 = true := by kernel_rfl
theorem TbK81 : TbE81.Ok Tryz.prog := Ent.ok_of mixed (Tab.ok_cons (f := 171) (Ent.ok_cons TbK80 Ent.ok_nil) Tab.ok_nil) TbT81
def TbE82 : Ent := ⟨16, (.cons (.str 31 221264196666494055743334121285902691455104274691475051948685758437774356073) .nil), ⟨[], 208803⟩, (.tup (avs [(.agg (avs [.nils, (.sl 224803 0 2 8 false)])), (.agg (avs [(nu 0), (nu 0)]))])), ⟨[TbO512, TbO520, TbO517, TbO519, TbO521, TbO522], 224804⟩⟩
theorem TbT82 : Ent.check Tryz.prog [(22, [TbE78]), (87, [TbE81])] 990 TbE82 = true := by kernel_rfl
theorem TbK82 : TbE82.Ok Tryz.prog := Ent.ok_of mixed (Tab.ok_cons (f := 22) (Ent.ok_cons TbK78 Ent.ok_nil) (Tab.ok_cons (f := 87) (Ent.ok_cons TbK81 Ent.ok_nil) Tab.ok_nil)) TbT82
def TbE83 : Ent := ⟨17, (.cons (.agg (avs [.nils, (.sl 224803 0 2 8 false)])) .nil), ⟨[TbO512, TbO520, TbO517, TbO519, TbO521, TbO522], 224806⟩, (.tup (avs [(.agg (avs [.nils, .nils])), (.agg (avs [(nu 6), (nu 25)]))])), ⟨[TbO512, TbO520, TbO517, TbO519, TbO521, TbO522], 225077⟩⟩
theorem TbT83 : Ent.check Tryz.prog [] 990 TbE83 = true := by kernel_rfl
theorem TbK83 : TbE83.Ok Tryz.prog := Ent.ok_of mixed Tab.ok_nil TbT83
def TbE84 : Ent := ⟨22, (.cons (.str 31 221705907513679015837915180946373226386546986867928478343135896998316175222) .nil), ⟨[], 225093⟩, (.tup (avs [(.sl 237044 0 16 4 false), (.agg (avs [(nu 0), (nu 0)]))])), ⟨[TbO523, TbO524, TbO525, TbO526, TbO527, TbO528, TbO529, TbO530, TbO531, TbO532, TbO533, TbO534, TbO535, TbO536, TbO537, TbO538], 237045⟩⟩
theorem TbT84 : Ent.check Tryz.prog [] 990 TbE84 = true := by kernel_rfl
theorem TbK84 : TbE84.Ok Tryz.prog := Ent.ok_of mixed Tab.ok_nil TbT84
def TbE85 : Ent := ⟨171, (.cons (.ptr 237046 0) (.cons (nu 3) (.cons (nu 3) .nil))), ⟨[TbO523, TbO524, TbO525, TbO526, TbO527, TbO528, TbO529, TbO530, TbO531, TbO532, TbO533, TbO534, TbO535, TbO536, TbO537, TbO538, TbO539], 237099⟩, (.agg (avs [(nu 1), (nu 0), (nu 0), (nu 0), (.str 0 0), (nu 1), .nils, (nu 16)])), ⟨[TbO523, TbO524, TbO525, TbO526, TbO527, TbO528, TbO529, TbO530, TbO531, TbO532, TbO533, TbO534, TbO535, TbO536, TbO537, TbO538, TbO540], 237292⟩⟩
theorem TbT85 : Ent.check Tryz.prog [] 990 TbE85 = true := by kernel_rfl
theorem TbK85 : TbE85.Ok Tryz.prog := Ent.ok_of mixed Tab.ok_nil TbT85
def TbE86 : Ent := ⟨48, (.cons (.ptr 237046 0) (.cons (nu 1) .nil)), ⟨[TbO523, TbO524, TbO525, TbO526, TbO527, TbO528, TbO529, TbO530, TbO531, TbO532, TbO533, TbO534, TbO535, TbO536, TbO537, TbO538, TbO541], 237071⟩, (.sl 237373 0 1 9 false), ⟨[TbO523, TbO524, TbO525, TbO526, TbO527, TbO528, TbO529, TbO530, TbO531, TbO532, TbO533, TbO534, TbO535, TbO536, TbO537, TbO538, TbO542, TbO543, TbO544], 237378⟩⟩
theorem TbT86 : Ent.check Tryz.prog [(171, [TbE85])] 990 TbE86 = true := by kernel_rfl
theorem TbK86 : TbE86.Ok Tryz.prog := Ent.ok_of mixed (Tab.ok_cons (f := 171) (Ent.ok_cons TbK85 Ent.ok_nil) Tab.ok_nil) TbT86
end Go.Proofs.YtpepepkfjimoeaaGreat

/- What the law asks last. -/
import Derived.Test.YtjpgogmnabkgnaaGreatMlO
import Derived.Test.YtjpgogmnabkgnaaGreatProg
import Derived.ProofKit
namespace Go.Proofs.YtjpgogmnabkgnaaGreat
open Go.RowKit Go.Proofs.YtjpgogmnabkgnaaGreat.Ev
set_option maxRecDepth 100000

def MlWE5 : Ent := ⟨37, (.cons (.str 28 13188389808205803994902396959577893194823295650215681297585771146857) .nil), ⟨[], 70004⟩, (.tup (avs [(.sl 80329 0 15 4 false), (.agg (avs [(nu 0), (nu 0)]))])), ⟨[MlO81], 80330⟩⟩
theorem MlWT5 [InL] {s : Shp} (hs : InS s) : @Ent.check (envS hs) Tryz.prog (@knownL (envS hs) []) [] 990 MlWE5 = true := by kernel_rfl
theorem MlWK5 [InL] {s : Shp} (hs : InS s) : @Ent.Ok (env0 s) Tryz.prog Keep.none MlWE5 :=
  @Ent.ok_of Tryz.prog Keep.none (envS hs) mixed (@knownL (envS hs) []) (knownL_ok hs (LD.at0_bd hs.k) noPads) [] tabNil 990 MlWE5 (MlWT5 hs)
def MlWE6 : Ent := ⟨24, (.cons (.str 28 13188389808205803994902396959577893194823295650215681297585771146857) .nil), ⟨[], 70002⟩, (.tup (avs [(.agg (avs [.nils, (.sl 81272 0 1 8 false)])), (.agg (avs [(nu 0), (nu 0)]))])), ⟨[MlO82, MlO83, MlO84, MlO85, MlO86], 81273⟩⟩
theorem MlWT6 [InL] {s : Shp} (hs : InS s) : @Ent.check (envS hs) Tryz.prog (@knownL (envS hs) []) [(37, [MlWE5])] 990 MlWE6 = true := by kernel_rfl
theorem MlWK6 [InL] {s : Shp} (hs : InS s) : @Ent.Ok (env0 s) Tryz.prog Keep.none MlWE6 :=
  @Ent.ok_of Tryz.prog Keep.none (envS hs) mixed (@knownL (envS hs) []) (knownL_ok hs (LD.at0_bd hs.k) noPads) [(37, [MlWE5])] (@Tab.ok_cons Tryz.prog Keep.none (envS hs) 37 _ _ (@Ent.ok_cons Tryz.prog Keep.none (envS hs) _ _ (MlWK5 hs) (@Ent.ok_nil Tryz.prog Keep.none (envS hs))) tabNil) 990 MlWE6 (MlWT6 hs)
def MlWE7 : Ent := ⟨15, (.cons (.str 28 13188389808205803994902396959577893194823295650215681297585771146857) .nil), ⟨[], 70001⟩, (.tup (avs [(.agg (avs [.nils, (.sl 81310 0 1 8 false)])), (.bool true)])), ⟨[MlO87, MlO88, MlO89, MlO90, MlO91], 81480⟩⟩
theorem MlWT7 [InL] {s : Shp} (hs : InS s) : @Ent.check (envS hs) Tryz.prog (@knownL (envS hs) []) [(24, [MlWE6])] 990 MlWE7 = true := by kernel_rfl
theorem MlWK7 [InL] {s : Shp} (hs : InS s) : @Ent.Ok (env0 s) Tryz.prog Keep.none MlWE7 :=
  @Ent.ok_of Tryz.prog Keep.none (envS hs) mixed (@knownL (envS hs) []) (knownL_ok hs (LD.at0_bd hs.k) noPads) [(24, [MlWE6])] (@Tab.ok_cons Tryz.prog Keep.none (envS hs) 24 _ _ (@Ent.ok_cons Tryz.prog Keep.none (envS hs) _ _ (MlWK6 hs) (@Ent.ok_nil Tryz.prog Keep.none (envS hs))) tabNil) 990 MlWE7 (MlWT7 hs)
def MlWE8 : Ent := ⟨9, .nil, ⟨[], 70000⟩, (.bool true), ⟨[], 81976⟩⟩
theorem MlWT8 [InL] {s : Shp} (hs : InS s) : @Ent.check (envS hs) Tryz.prog (@knownL (envS hs) []) [(15, [MlWE7])] 990 MlWE8 = true := by kernel_rfl
theorem MlWK8 [InL] {s : Shp} (hs : InS s) : @Ent.Ok (env0 s) Tryz.prog Keep.none MlWE8 :=
  @Ent.ok_of Tryz.prog Keep.none (envS hs) mixed (@knownL (envS hs) []) (knownL_ok hs (LD.at0_bd hs.k) noPads) [(15, [MlWE7])] (@Tab.ok_cons Tryz.prog Keep.none (envS hs) 15 _ _ (@Ent.ok_cons Tryz.prog Keep.none (envS hs) _ _ (MlWK7 hs) (@Ent.ok_nil Tryz.prog Keep.none (envS hs))) tabNil) 990 MlWE8 (MlWT8 hs)
def MlPads : List Ent := [MlWE8]
theorem Ml_pads [InL] {s : Shp} (hs : InS s) : ∀ x ∈ MlPads, @Ent.Ok (env0 s) Tryz.prog Keep.none x :=
  @Ent.ok_cons Tryz.prog Keep.none (envS hs) _ _ (MlWK8 hs) (@Ent.ok_nil Tryz.prog Keep.none (envS hs))
end Go.Proofs.YtjpgogmnabkgnaaGreat

/- What the law asks last. -/
import Derived.Test.YtjpgogmnabkgnaaGreatMsO
import Derived.Test.YtjpgogmnabkgnaaGreatProg
import Derived.ProofKit
namespace Go.Proofs.YtjpgogmnabkgnaaGreat
open Go.RowKit Go.Proofs.YtjpgogmnabkgnaaGreat.Ev
set_option maxRecDepth 100000

def MsWE5 : Ent := ⟨37, (.cons (.str 28 13188389808205803994902396959577893194823295650215681297585771146857) .nil), ⟨[], 70004⟩, (.tup (avs [(.sl 80329 0 15 4 false), (.agg (avs [(nu 0), (nu 0)]))])), ⟨[MsO84], 80330⟩⟩
theorem MsWT5 [InW] {s : Shq} (hs : InQ s) : @Ent.check (envT hs) Tryz.prog (@knownS (envT hs) s.nd []) [] 990 MsWE5 = true := by kernel_rfl
theorem MsWK5 [InW] {s : Shq} (hs : InQ s) : @Ent.Ok (env1 s) Tryz.prog Keep.none MsWE5 :=
  @Ent.ok_of Tryz.prog Keep.none (envT hs) mixed (@knownS (envT hs) s.nd []) (knownS_ok hs (SD.at0_bd hs.k) noPadsS) [] tabNilS 990 MsWE5 (MsWT5 hs)
def MsWE6 : Ent := ⟨24, (.cons (.str 28 13188389808205803994902396959577893194823295650215681297585771146857) .nil), ⟨[], 70002⟩, (.tup (avs [(.agg (avs [.nils, (.sl 81272 0 1 8 false)])), (.agg (avs [(nu 0), (nu 0)]))])), ⟨[MsO85, MsO86, MsO87, MsO88, MsO89], 81273⟩⟩
theorem MsWT6 [InW] {s : Shq} (hs : InQ s) : @Ent.check (envT hs) Tryz.prog (@knownS (envT hs) s.nd []) [(37, [MsWE5])] 990 MsWE6 = true := by kernel_rfl
theorem MsWK6 [InW] {s : Shq} (hs : InQ s) : @Ent.Ok (env1 s) Tryz.prog Keep.none MsWE6 :=
  @Ent.ok_of Tryz.prog Keep.none (envT hs) mixed (@knownS (envT hs) s.nd []) (knownS_ok hs (SD.at0_bd hs.k) noPadsS) [(37, [MsWE5])] (@Tab.ok_cons Tryz.prog Keep.none (envT hs) 37 _ _ (@Ent.ok_cons Tryz.prog Keep.none (envT hs) _ _ (MsWK5 hs) (@Ent.ok_nil Tryz.prog Keep.none (envT hs))) tabNilS) 990 MsWE6 (MsWT6 hs)
def MsWE7 : Ent := ⟨15, (.cons (.str 28 13188389808205803994902396959577893194823295650215681297585771146857) .nil), ⟨[], 70001⟩, (.tup (avs [(.agg (avs [.nils, (.sl 81310 0 1 8 false)])), (.bool true)])), ⟨[MsO90, MsO91, MsO92, MsO93, MsO94], 81480⟩⟩
theorem MsWT7 [InW] {s : Shq} (hs : InQ s) : @Ent.check (envT hs) Tryz.prog (@knownS (envT hs) s.nd []) [(24, [MsWE6])] 990 MsWE7 = true := by kernel_rfl
theorem MsWK7 [InW] {s : Shq} (hs : InQ s) : @Ent.Ok (env1 s) Tryz.prog Keep.none MsWE7 :=
  @Ent.ok_of Tryz.prog Keep.none (envT hs) mixed (@knownS (envT hs) s.nd []) (knownS_ok hs (SD.at0_bd hs.k) noPadsS) [(24, [MsWE6])] (@Tab.ok_cons Tryz.prog Keep.none (envT hs) 24 _ _ (@Ent.ok_cons Tryz.prog Keep.none (envT hs) _ _ (MsWK6 hs) (@Ent.ok_nil Tryz.prog Keep.none (envT hs))) tabNilS) 990 MsWE7 (MsWT7 hs)
def MsWE8 : Ent := ⟨9, .nil, ⟨[], 70000⟩, (.bool true), ⟨[], 81976⟩⟩
theorem MsWT8 [InW] {s : Shq} (hs : InQ s) : @Ent.check (envT hs) Tryz.prog (@knownS (envT hs) s.nd []) [(15, [MsWE7])] 990 MsWE8 = true := by kernel_rfl
theorem MsWK8 [InW] {s : Shq} (hs : InQ s) : @Ent.Ok (env1 s) Tryz.prog Keep.none MsWE8 :=
  @Ent.ok_of Tryz.prog Keep.none (envT hs) mixed (@knownS (envT hs) s.nd []) (knownS_ok hs (SD.at0_bd hs.k) noPadsS) [(15, [MsWE7])] (@Tab.ok_cons Tryz.prog Keep.none (envT hs) 15 _ _ (@Ent.ok_cons Tryz.prog Keep.none (envT hs) _ _ (MsWK7 hs) (@Ent.ok_nil Tryz.prog Keep.none (envT hs))) tabNilS) 990 MsWE8 (MsWT8 hs)
def MsPads : List Ent := [MsWE8]
theorem Ms_pads [InW] {s : Shq} (hs : InQ s) : ∀ x ∈ MsPads, @Ent.Ok (env1 s) Tryz.prog Keep.none x :=
  @Ent.ok_cons Tryz.prog Keep.none (envT hs) _ _ (MsWK8 hs) (@Ent.ok_nil Tryz.prog Keep.none (envT hs))
end Go.Proofs.YtjpgogmnabkgnaaGreat

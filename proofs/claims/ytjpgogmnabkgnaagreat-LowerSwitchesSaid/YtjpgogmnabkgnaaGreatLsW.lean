/- What the law asks last. -/
import Derived.Test.YtjpgogmnabkgnaaGreatLsO
import Derived.Test.YtjpgogmnabkgnaaGreatProg
import Derived.ProofKit
namespace Go.Proofs.YtjpgogmnabkgnaaGreat
open Go.RowKit Go.Proofs.YtjpgogmnabkgnaaGreat.Ev
set_option maxRecDepth 100000

def LsWE5 : Ent := ⟨37, (.cons (.str 28 13188389808205803994902396959576563966827510734342777490525490802281) .nil), ⟨[], 70003⟩, (.tup (avs [(.sl 80328 0 15 4 false), (.agg (avs [(nu 0), (nu 0)]))])), ⟨[LsO137], 80329⟩⟩
theorem LsWT5 [InW] {s : Shq} (hs : InQ s) : @Ent.check (envT hs) Tryz.prog (@knownS (envT hs) s.nd []) [] 990 LsWE5 = true := by kernel_rfl
theorem LsWK5 [InW] {s : Shq} (hs : InQ s) : @Ent.Ok (env1 s) Tryz.prog Keep.none LsWE5 :=
  @Ent.ok_of Tryz.prog Keep.none (envT hs) mixed (@knownS (envT hs) s.nd []) (knownS_ok hs (SD.at0_bd hs.k) noPadsS) [] tabNilS 990 LsWE5 (LsWT5 hs)
def LsWE6 : Ent := ⟨24, (.cons (.str 28 13188389808205803994902396959576563966827510734342777490525490802281) .nil), ⟨[], 70001⟩, (.tup (avs [(.agg (avs [.nils, (.sl 81271 0 1 8 false)])), (.agg (avs [(nu 0), (nu 0)]))])), ⟨[LsO138, LsO139, LsO140, LsO141, LsO142], 81272⟩⟩
theorem LsWT6 [InW] {s : Shq} (hs : InQ s) : @Ent.check (envT hs) Tryz.prog (@knownS (envT hs) s.nd []) [(37, [LsWE5])] 990 LsWE6 = true := by kernel_rfl
theorem LsWK6 [InW] {s : Shq} (hs : InQ s) : @Ent.Ok (env1 s) Tryz.prog Keep.none LsWE6 :=
  @Ent.ok_of Tryz.prog Keep.none (envT hs) mixed (@knownS (envT hs) s.nd []) (knownS_ok hs (SD.at0_bd hs.k) noPadsS) [(37, [LsWE5])] (@Tab.ok_cons Tryz.prog Keep.none (envT hs) 37 _ _ (@Ent.ok_cons Tryz.prog Keep.none (envT hs) _ _ (LsWK5 hs) (@Ent.ok_nil Tryz.prog Keep.none (envT hs))) tabNilS) 990 LsWE6 (LsWT6 hs)
def LsWE7 : Ent := ⟨15, (.cons (.str 28 13188389808205803994902396959576563966827510734342777490525490802281) .nil), ⟨[], 70000⟩, (.tup (avs [(.agg (avs [.nils, (.sl 81309 0 1 8 false)])), (.bool true)])), ⟨[LsO143, LsO144, LsO145, LsO146, LsO147], 81479⟩⟩
theorem LsWT7 [InW] {s : Shq} (hs : InQ s) : @Ent.check (envT hs) Tryz.prog (@knownS (envT hs) s.nd []) [(24, [LsWE6])] 990 LsWE7 = true := by kernel_rfl
theorem LsWK7 [InW] {s : Shq} (hs : InQ s) : @Ent.Ok (env1 s) Tryz.prog Keep.none LsWE7 :=
  @Ent.ok_of Tryz.prog Keep.none (envT hs) mixed (@knownS (envT hs) s.nd []) (knownS_ok hs (SD.at0_bd hs.k) noPadsS) [(24, [LsWE6])] (@Tab.ok_cons Tryz.prog Keep.none (envT hs) 24 _ _ (@Ent.ok_cons Tryz.prog Keep.none (envT hs) _ _ (LsWK6 hs) (@Ent.ok_nil Tryz.prog Keep.none (envT hs))) tabNilS) 990 LsWE7 (LsWT7 hs)
def LsWE8 : Ent := ⟨12, .nil, ⟨[], 70000⟩, (.bool true), ⟨[], 82219⟩⟩
theorem LsWT8 [InW] {s : Shq} (hs : InQ s) : @Ent.check (envT hs) Tryz.prog (@knownS (envT hs) s.nd []) [(15, [LsWE7])] 990 LsWE8 = true := by kernel_rfl
theorem LsWK8 [InW] {s : Shq} (hs : InQ s) : @Ent.Ok (env1 s) Tryz.prog Keep.none LsWE8 :=
  @Ent.ok_of Tryz.prog Keep.none (envT hs) mixed (@knownS (envT hs) s.nd []) (knownS_ok hs (SD.at0_bd hs.k) noPadsS) [(15, [LsWE7])] (@Tab.ok_cons Tryz.prog Keep.none (envT hs) 15 _ _ (@Ent.ok_cons Tryz.prog Keep.none (envT hs) _ _ (LsWK7 hs) (@Ent.ok_nil Tryz.prog Keep.none (envT hs))) tabNilS) 990 LsWE8 (LsWT8 hs)
def LsPads : List Ent := [LsWE8]
theorem Ls_pads [InW] {s : Shq} (hs : InQ s) : ∀ x ∈ LsPads, @Ent.Ok (env1 s) Tryz.prog Keep.none x :=
  @Ent.ok_cons Tryz.prog Keep.none (envT hs) _ _ (LsWK8 hs) (@Ent.ok_nil Tryz.prog Keep.none (envT hs))
end Go.Proofs.YtjpgogmnabkgnaaGreat

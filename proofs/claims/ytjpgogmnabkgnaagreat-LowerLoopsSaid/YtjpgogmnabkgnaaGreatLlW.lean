/- What the law asks last. -/
import Derived.Test.YtjpgogmnabkgnaaGreatLlO
import Derived.Test.YtjpgogmnabkgnaaGreatProg
import Derived.ProofKit
namespace Go.Proofs.YtjpgogmnabkgnaaGreat
open Go.RowKit Go.Proofs.YtjpgogmnabkgnaaGreat.Ev
set_option maxRecDepth 100000

def LlWE5 : Ent := ⟨37, (.cons (.str 28 13188389808205803994902396959576563966827510734342777490525490802281) .nil), ⟨[], 70003⟩, (.tup (avs [(.sl 80328 0 15 4 false), (.agg (avs [(nu 0), (nu 0)]))])), ⟨[LlO115], 80329⟩⟩
theorem LlWT5 [InL] {s : Shp} (hs : InS s) : @Ent.check (envS hs) Tryz.prog (@knownL (envS hs) []) [] 990 LlWE5 = true := by kernel_rfl
theorem LlWK5 [InL] {s : Shp} (hs : InS s) : @Ent.Ok (env0 s) Tryz.prog Keep.none LlWE5 :=
  @Ent.ok_of Tryz.prog Keep.none (envS hs) mixed (@knownL (envS hs) []) (knownL_ok hs (LD.at0_bd hs.k) noPads) [] tabNil 990 LlWE5 (LlWT5 hs)
def LlWE6 : Ent := ⟨24, (.cons (.str 28 13188389808205803994902396959576563966827510734342777490525490802281) .nil), ⟨[], 70001⟩, (.tup (avs [(.agg (avs [.nils, (.sl 81271 0 1 8 false)])), (.agg (avs [(nu 0), (nu 0)]))])), ⟨[LlO116, LlO117, LlO118, LlO119, LlO120], 81272⟩⟩
theorem LlWT6 [InL] {s : Shp} (hs : InS s) : @Ent.check (envS hs) Tryz.prog (@knownL (envS hs) []) [(37, [LlWE5])] 990 LlWE6 = true := by kernel_rfl
theorem LlWK6 [InL] {s : Shp} (hs : InS s) : @Ent.Ok (env0 s) Tryz.prog Keep.none LlWE6 :=
  @Ent.ok_of Tryz.prog Keep.none (envS hs) mixed (@knownL (envS hs) []) (knownL_ok hs (LD.at0_bd hs.k) noPads) [(37, [LlWE5])] (@Tab.ok_cons Tryz.prog Keep.none (envS hs) 37 _ _ (@Ent.ok_cons Tryz.prog Keep.none (envS hs) _ _ (LlWK5 hs) (@Ent.ok_nil Tryz.prog Keep.none (envS hs))) tabNil) 990 LlWE6 (LlWT6 hs)
def LlWE7 : Ent := ⟨15, (.cons (.str 28 13188389808205803994902396959576563966827510734342777490525490802281) .nil), ⟨[], 70000⟩, (.tup (avs [(.agg (avs [.nils, (.sl 81309 0 1 8 false)])), (.bool true)])), ⟨[LlO121, LlO122, LlO123, LlO124, LlO125], 81479⟩⟩
theorem LlWT7 [InL] {s : Shp} (hs : InS s) : @Ent.check (envS hs) Tryz.prog (@knownL (envS hs) []) [(24, [LlWE6])] 990 LlWE7 = true := by kernel_rfl
theorem LlWK7 [InL] {s : Shp} (hs : InS s) : @Ent.Ok (env0 s) Tryz.prog Keep.none LlWE7 :=
  @Ent.ok_of Tryz.prog Keep.none (envS hs) mixed (@knownL (envS hs) []) (knownL_ok hs (LD.at0_bd hs.k) noPads) [(24, [LlWE6])] (@Tab.ok_cons Tryz.prog Keep.none (envS hs) 24 _ _ (@Ent.ok_cons Tryz.prog Keep.none (envS hs) _ _ (LlWK6 hs) (@Ent.ok_nil Tryz.prog Keep.none (envS hs))) tabNil) 990 LlWE7 (LlWT7 hs)
def LlWE8 : Ent := ⟨12, .nil, ⟨[], 70000⟩, (.bool true), ⟨[], 82219⟩⟩
theorem LlWT8 [InL] {s : Shp} (hs : InS s) : @Ent.check (envS hs) Tryz.prog (@knownL (envS hs) []) [(15, [LlWE7])] 990 LlWE8 = true := by kernel_rfl
theorem LlWK8 [InL] {s : Shp} (hs : InS s) : @Ent.Ok (env0 s) Tryz.prog Keep.none LlWE8 :=
  @Ent.ok_of Tryz.prog Keep.none (envS hs) mixed (@knownL (envS hs) []) (knownL_ok hs (LD.at0_bd hs.k) noPads) [(15, [LlWE7])] (@Tab.ok_cons Tryz.prog Keep.none (envS hs) 15 _ _ (@Ent.ok_cons Tryz.prog Keep.none (envS hs) _ _ (LlWK7 hs) (@Ent.ok_nil Tryz.prog Keep.none (envS hs))) tabNil) 990 LlWE8 (LlWT8 hs)
def LlPads : List Ent := [LlWE8]
theorem Ll_pads [InL] {s : Shp} (hs : InS s) : ∀ x ∈ LlPads, @Ent.Ok (env0 s) Tryz.prog Keep.none x :=
  @Ent.ok_cons Tryz.prog Keep.none (envS hs) _ _ (LlWK8 hs) (@Ent.ok_nil Tryz.prog Keep.none (envS hs))
end Go.Proofs.YtjpgogmnabkgnaaGreat

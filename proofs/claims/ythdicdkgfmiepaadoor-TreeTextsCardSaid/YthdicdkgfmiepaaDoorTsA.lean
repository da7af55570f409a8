/- Texts: two laid together, a byte made a text, a part of one. -/
import Derived.Test.YthdicdkgfmiepaaDoorRuK
import Derived.Laws.IdiomStrings
import Derived.Laws.Concat
import Derived.OwnWalk
namespace Go.Proofs.YthdicdkgfmiepaaDoor
open Go.RowKit

theorem conv_one (w : World) (b : UInt8) (g : Nat) (hg : g = w.heap.size) : Sem.run Tryd.prog (convert 91 9 (.slice (some ⟨g, 0, none⟩) 1 1)) (w.alloc (.cells #[.int .u8 b.toNat] 5)) = Result.ok (Value.string ⟨#[b]⟩) (w.alloc (.cells #[.int .u8 b.toNat] 5)) := by
  subst hg
  refine run_convert_bytes_back _ 91 9 5 ⟨w.heap.size, 0, none⟩ 1 [b] Tryd.underlying91 Tryd.underlying5 Tryd.underlying9 (fun j hj => ?_)
  obtain rfl : j = 0 := by simpa using hj
  exact (BlkIs.fresh w 5 #[.int .u8 b.toNat]).cell 0

theorem app_list (a b : List UInt8) : ByteArray.mk a.toArray ++ ByteArray.mk b.toArray = ⟨(a ++ b).toArray⟩ := by
  apply ByteArray.ext
  simp [ByteArray.data_append]

theorem add_str (a b c : List UInt8) (hc : a ++ b = c) (h : a.length + b.length ≤ 1000000000) (W : World) : Sem.run Tryd.prog (Op.stringOp .add ⟨a.toArray⟩ ⟨b.toArray⟩) W = Result.ok (Value.string ⟨c.toArray⟩) W := by
  rw [← hc, ← app_list]
  exact run_string_add_sum W _ _ (by simp [ByteArray.size]; omega)

theorem ext_list (s : List UInt8) (a b : Nat) : (ByteArray.mk s.toArray).extract a b = ⟨((s.drop a).take (b - a)).toArray⟩ := by
  apply ByteArray.ext
  simp [ByteArray.data_extract]

end Go.Proofs.YthdicdkgfmiepaaDoor

/- The ops' words, and which ops are of two, of one, loads. -/
import Derived.Test.YthdicdkgfmiepaaGreatDoorRuC
import Derived.BigGuardPart
namespace Go.Proofs.YthdicdkgfmiepaaGreatDoor
open Go.RowKit

theorem ret_bool {a b : Bool} (h : a = b) : Ending.returned (.bool a) = .returned (.bool b) := by rw [h]
def strCells (l : List (List UInt8)) : List Value := l.map fun x => .string ⟨x.toArray⟩
def opWords : List (List UInt8) := [[99, 111, 110], [116, 109, 112], [108, 111, 99], [103, 108, 111], [108, 111, 97, 100, 56], [108, 111, 97, 100, 49, 54], [108, 111, 97, 100, 51, 50], [108, 111, 97, 100, 54, 52], [108, 111, 97, 100, 117, 56], [108, 111, 97, 100, 117, 49, 54], [108, 111, 97, 100, 117, 51, 50], [97, 100, 100], [115, 117, 98], [109, 117, 108], [100, 105, 118], [100, 105, 118, 117], [114, 101, 109], [114, 101, 109, 117], [97, 110, 100], [111, 114], [120, 111, 114], [115, 104, 108], [115, 104, 114], [115, 97, 114], [101, 113], [110, 101], [108, 116], [108, 116, 117], [108, 101], [108, 101, 117], [101, 120, 116, 56], [101, 120, 116, 49, 54], [101, 120, 116, 51, 50], [122, 101, 120, 116, 56], [122, 101, 120, 116, 49, 54], [122, 101, 120, 116, 51, 50]]
def opText : List UInt8 := [99, 111, 110, 32, 116, 109, 112, 32, 108, 111, 99, 32, 103, 108, 111, 32, 108, 111, 97, 100, 56, 32, 108, 111, 97, 100, 49, 54, 32, 108, 111, 97, 100, 51, 50, 32, 108, 111, 97, 100, 54, 52, 32, 108, 111, 97, 100, 117, 56, 32, 108, 111, 97, 100, 117, 49, 54, 32, 108, 111, 97, 100, 117, 51, 50, 32, 97, 100, 100, 32, 115, 117, 98, 32, 109, 117, 108, 32, 100, 105, 118, 32, 100, 105, 118, 117, 32, 114, 101, 109, 32, 114, 101, 109, 117, 32, 97, 110, 100, 32, 111, 114, 32, 120, 111, 114, 32, 115, 104, 108, 32, 115, 104, 114, 32, 115, 97, 114, 32, 101, 113, 32, 110, 101, 32, 108, 116, 32, 108, 116, 117, 32, 108, 101, 32, 108, 101, 117, 32, 101, 120, 116, 56, 32, 101, 120, 116, 49, 54, 32, 101, 120, 116, 51, 50, 32, 122, 101, 120, 116, 56, 32, 122, 101, 120, 116, 49, 54, 32, 122, 101, 120, 116, 51, 50]

theorem opText_fields : Lib.fields opText = opWords := by kernel_rfl

theorem opText_ascii (j : Nat) (b : UInt8) (h : opText[j]? = some b) : b.toNat < 128 := by
  have h1 : (opText.all fun b => decide (b.toNat < 128)) = true := by kernel_rfl
  simpa using List.all_eq_true.1 h1 b (List.mem_of_getElem? h)
theorem opText_size : (ByteArray.mk opText.toArray).size < 4294967281 := by
  have h1 : decide (opText.length < 4294967281) = true := by kernel_rfl
  have h2 : (ByteArray.mk opText.toArray).size = opText.length := by simp [ByteArray.size]
  rw [h2]
  exact of_decide_eq_true h1

/-- the library's table of blanks, as the row lays it -/
abbrev Tab (w : World) : Prop := Lib.TabIs Tryz.prog w "strings.asciiSpace" .u8 Lib.asciiSpaceTab

def isBin (n : Int) : Bool := decide (12 ≤ n) && decide (n ≤ 30)
def isUn (n : Int) : Bool := decide (31 ≤ n) && decide (n ≤ 36)
def isLoad (n : Int) : Bool := decide (5 ≤ n) && decide (n ≤ 11)

set_option maxHeartbeats 400000 in
theorem binary_any (n : Int) (w : World) : Calls Tryz.prog 72 #[.int .i64 n] w fun e w' => e = .returned (.bool (isBin n)) ∧ w = w' := by
  go_enter Tryz.func72, Tryz.ntmps72
  go_wp2
  all_goals
    go_ret
    refine ⟨ret_bool ?_, rfl⟩
    grind [isBin]

set_option maxHeartbeats 400000 in
theorem opWords_any (w : World) (ht : Tab w) :
    Calls Tryz.prog 43 #[] w fun e w' => e = .returned (.slice (some ⟨w.heap.size, 0, none⟩) 36 36) ∧ w.alloc (.cells (strCells opWords).toArray 9) = w' := by
  have HF := Lib.hid opText_fields
  go_enter Tryz.func43, Tryz.ntmps43
  go_wp2_with fail
  refine (Tryz.strings_Fields_laid ⟨opText.toArray⟩ _ opText_size opText_ascii ht).mono ?_
  rintro e w' ⟨rfl, rfl⟩
  rw [show Lib.fields (ByteArray.mk opText.toArray).data.toList = opWords from HF.out]
  go_wp2_with fail
  go_ret
  exact ⟨rfl, rfl⟩

end Go.Proofs.YthdicdkgfmiepaaGreatDoor

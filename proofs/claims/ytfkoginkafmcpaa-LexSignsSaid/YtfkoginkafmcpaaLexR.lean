/- The reference's lists, and whether a text is among some. -/
import Derived.Test.YtfkoginkafmcpaaLexA
import Derived.Test.YtfkoginkafmcpaaMem
import Derived.Outline
namespace Go.Proofs.Ytfkoginkafmcpaa
open Go.RowKit

def wordsR : List (List UInt8) := [[118, 111, 105, 100], [99, 104, 97, 114], [115, 104, 111, 114, 116], [105, 110, 116], [108, 111, 110, 103], [117, 110, 115, 105, 103, 110, 101, 100], [105, 102], [101, 108, 115, 101], [119, 104, 105, 108, 101], [100, 111], [102, 111, 114], [115, 119, 105, 116, 99, 104], [99, 97, 115, 101], [100, 101, 102, 97, 117, 108, 116], [98, 114, 101, 97, 107], [99, 111, 110, 116, 105, 110, 117, 101], [114, 101, 116, 117, 114, 110], [103, 111, 116, 111], [115, 105, 122, 101, 111, 102]]
def signsR : List (List UInt8) := [[60, 60, 61], [62, 62, 61], [43, 43], [45, 45], [60, 60], [62, 62], [60, 61], [62, 61], [61, 61], [33, 61], [38, 38], [124, 124], [43, 61], [45, 61], [42, 61], [47, 61], [37, 61], [38, 61], [94, 61], [124, 61], [43], [45], [42], [47], [37], [38], [124], [94], [126], [33], [60], [62], [61], [63], [58], [59], [44], [40], [41], [91], [93], [123], [125]]
def strCells (l : List (List UInt8)) : List Value := l.map fun x => .string ⟨x.toArray⟩

set_option maxHeartbeats 400000 in
theorem words_any (w : World) :
    Calls Try.prog 19 #[] w fun e w' => e = .returned (.slice (some ⟨w.heap.size, 0, none⟩) 19 19) ∧ w.alloc (.cells (strCells wordsR).toArray 9) = w' := by
  go_enter Try.func19, Try.ntmps19
  go_wp2_with fail
  go_ret
  exact ⟨rfl, rfl⟩

set_option maxHeartbeats 400000 in
theorem signs_any (w : World) :
    Calls Try.prog 20 #[] w fun e w' => e = .returned (.slice (some ⟨w.heap.size, 0, none⟩) 43 43) ∧ w.alloc (.cells (strCells signsR).toArray 9) = w' := by
  go_enter Try.func20, Try.ntmps20
  go_wp2_with fail
  go_ret
  exact ⟨rfl, rfl⟩

theorem strCells_at (l : List (List UInt8)) (k : Nat) (h : k < l.length) : (strCells l).toArray[k]? = some (.string ⟨(l[k]).toArray⟩) := by
  simp [strCells, h]

theorem str_eq (a : List UInt8) (x : ByteArray) : ((⟨a.toArray⟩ : ByteArray) = x) ↔ a = x.data.toList := by
  constructor
  · intro h; rw [← h]
  · intro h; rw [h]

set_option maxHeartbeats 400000 in
theorem among_any (l : List (List UInt8)) (g : Nat) (x : ByteArray) (w : World) (hl : l.length ≤ 100000) (hg : BlkIs w g 9 (strCells l).toArray) :
    Calls Try.prog 18 #[.slice (some ⟨g, 0, none⟩) l.length l.length, .string x] w fun e w' => e = .returned (.bool (decide (x.data.toList ∈ l))) ∧ w = w' := by
  go_enter Try.func18, Try.ntmps18
  go_wp2_with fail
  go_loop [5] (fun i => ∃ k : Nat, k ≤ l.length ∧ i = .int .i64 k ∧ Hid (x.data.toList ∈ l ↔ x.data.toList ∈ l.drop k)) (fun i => l.length - (intOf i).toNat)
  case atStart => exact ⟨0, Nat.zero_le _, rfl, Lib.hid (by simp)⟩
  case round =>
    obtain ⟨k, hk, rfl, hr⟩ := hrel
    by_cases hlt : k < l.length
    · have hc : w.cell? ⟨g, k, none⟩ = some (.string ⟨(l[k]).toArray⟩) := by rw [hg.cell, strCells_at l k hlt]
      have hd : Hid (x.data.toList ∈ l.drop k ↔ (x.data.toList = l[k] ∨ x.data.toList ∈ l.drop (k + 1))) := by
        refine Lib.hid ?_
        rw [List.drop_eq_getElem_cons hlt, List.mem_cons]
      by_cases he : x.data.toList = l[k]
      · have H1 : (l[k] == x.toList) = true := by rw [ByteArray.toList_eq, he]; simp
        have HM := Lib.hid (hr.out.2 (hd.out.2 (.inl he)))
        clear he
        go_wp2_with fail
        go_ret
        refine ⟨ret_bool ?_, rfl⟩
        simpa using HM.out
      · have H1 : (l[k] == x.toList) = false := by rw [ByteArray.toList_eq]; simpa using fun h => he h.symm
        have HM : Hid (x.data.toList ∈ l ↔ x.data.toList ∈ l.drop (k + 1)) := Lib.hid (hr.out.trans (hd.out.trans ⟨fun h => h.resolve_left he, .inr⟩))
        clear he
        go_wp2_with fail
        go_round
        case rel => exact ⟨k + 1, by omega, by go_num, HM⟩
        case measure => simp [intOf]; omega
    · obtain rfl : k = l.length := by omega
      go_wp2_with fail
      go_ret
      refine ⟨ret_bool ?_, rfl⟩
      have := hr.out
      rw [List.drop_of_length_le (Nat.le_refl _)] at this
      simpa using this

theorem amongW (b : Bool) (g : Nat) (x : ByteArray) (w : World) (hb : Hid (b = decide (x.data.toList ∈ wordsR))) (hg : BlkIs w g 9 (strCells wordsR).toArray) :
    Calls Try.prog 18 #[.slice (some ⟨g, 0, none⟩) 19 19, .string x] w fun e w' => e = .returned (.bool b) ∧ w = w' := by
  rw [hb.out]
  exact among_any wordsR g x w (by decide) hg

end Go.Proofs.Ytfkoginkafmcpaa

/- A tie: what it lists, where it lies. -/
import Derived.Test.YtfmlgiafkbakcaaGreatDoorRows
import Derived.LaidByTextLater
import Derived.SevenTiedAt
namespace Go.Proofs.YtfmlgiafkbakcaaGreatDoor
open Go
set_option maxRecDepth 100000

abbrev tieL : List (String × DataW Unit) := [("internal/strconv.uint64pow10", Rows.laid_internal_strconv_uint64pow10), ("math/bits.deBruijn32tab", Rows.laid_math_bits_deBruijn32tab), ("math/bits.deBruijn64tab", Rows.laid_math_bits_deBruijn64tab), ("strings.asciiSpace", Rows.laid_strings_asciiSpace), ("unicode.White_Space", Rows.laid_unicode_White_Space), ("strconv.ErrSyntax", Rows.laid_strconv_ErrSyntax), ("strconv.ErrRange", Rows.laid_strconv_ErrRange)]
def rowL (x : Nat × Nat) : List MemPlace := (List.range x.2).map fun o => MemPlace.cell x.1 o
def tieR : List (Nat × Nat) := [(2, 20), (4, 32), (5, 64), (0, 256), (1, 1), (17, 3), (16, 21), (6, 1), (15, 1), (7, 1), (14, 1)]
def tieP : List MemPlace := tieR.flatMap rowL

theorem rowL_nodup (x : Nat × Nat) : (rowL x).Nodup := by
  unfold rowL
  refine List.Pairwise.map _ (fun a b h => ?_) (List.nodup_range (n := x.2))
  intro e
  injection e with _ e
  exact h e

theorem rows_nodup : ∀ l : List (Nat × Nat), (l.map (·.1)).Nodup → (l.flatMap rowL).Nodup
  | [], _ => List.nodup_nil
  | x :: l, h => by
    rw [List.map_cons, List.nodup_cons] at h
    rw [List.flatMap_cons, List.nodup_append]
    refine ⟨rowL_nodup x, rows_nodup l h.2, fun a ha b hb e => h.1 ?_⟩
    subst e
    obtain ⟨y, hy, hb⟩ := List.mem_flatMap.1 hb
    unfold rowL at ha hb
    obtain ⟨i, _, rfl⟩ := List.mem_map.1 ha
    obtain ⟨j, _, e⟩ := List.mem_map.1 hb
    injection e with e _
    exact List.mem_map.2 ⟨y, hy, e⟩

theorem tieP_nodup : decide tieP.Nodup = true := decide_eq_true (rows_nodup tieR (by decide))

/-- a tie, its run told once -/
theorem laid_of_run {P : Program} {laid : List (String × DataW Unit)} {kinds : List LaidKind} {tests : Bool} (n fuel : Nat) (ps : List MemPlace)
    (hw : P.worded (varsWordLater tests) = true) (hw' : P.worded (varsWordLater !tests) = false) (hroot : P.worded rootWordLater = true) (hk : laid.map (fun x => P.kindOfLater x.1) = kinds.map some)
    (hg : (P.funcNamed "gosem.cut.vars").isSome = true) (hn : varsNamedLaterB P (varsId P) laid = true) (hd : ∀ os tape, varsDone P n (varsId P) os tape = true)
    (hrun : ∀ os tape, DataW.laidRun P (varsWorld P n (varsId P) os tape).memory fuel (laid.map (·.1)) = some (laid, ps)) (hnd : decide ps.Nodup = true)
    (hrb : ∀ os tape, laidRowsB P (varsWorld P n (varsId P) os tape).memory ps = true) (hp : (laid.all fun x => x.2.handleName?.isNone) = true) : P.laidByTextLater laid kinds tests :=
  Program.laidByTextLater_by_run n fuel hw hw' hroot hk hg hn hd (fun os tape => by rw [hrun os tape]; rfl) (fun os tape => by rw [hrun os tape, Option.map_some, hnd, hrb os tape]; rfl) hp

end Go.Proofs.YtfmlgiafkbakcaaGreatDoor

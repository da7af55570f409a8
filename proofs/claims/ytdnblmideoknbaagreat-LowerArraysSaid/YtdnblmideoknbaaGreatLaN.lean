/- The longest runs: calls in them that were proved one by one. -/
import Derived.Test.YtdnblmideoknbaaGreatLaTab
import Derived.Test.YtdnblmideoknbaaGreatProg
import Derived.ProofKit
namespace Go.Proofs.YtdnblmideoknbaaGreat
open Go.RowKit Go.Proofs.YtdnblmideoknbaaGreat.Ev

/-- of one length, wherever is asked -/
abbrev envN [In4] (n0 : Nat) (hn : In4.n = n0) : SEnv where
  toSEnv0 := env0A
  lo := loA n0 0
  hi := hiA n0 7
  rng_ok := rngA n0 0 n0 7 ⟨by omega, by omega⟩ ⟨In4.a_rng.1, by have := In4.a_rng; have := In4.n_rng; omega⟩
  app_ok := app64
  askEq _ _ := none
  askLt _ _ := none
  eq_ok := fun h => by cases h
  lt_ok := fun h => by cases h
theorem knownN_ok [In4] (n0 : Nat) (hn : In4.n = n0) : @Known.Ok env0A Tryz.prog Keep.none (@knownA (envN n0 hn)) := @knownTwo_ok (envN n0 hn) app_two
set_option maxRecDepth 100000
def LaNO0 : Nat × AObj := (63113, (cl [nu 4, .sym .i64 (.lin 0 [(0, 1)]), .nils, nu 4, nu 1, .nils, nu 4, nu 1, .nils, nu 8, nu 1, .nils] true [63081, 63049, 63017]))
def LaNO1 : Nat × AObj := (63139, (cl [nu 1, nu 0, .nils] true []))
def LaNO2 : Nat × AObj := (63163, (cl [nu 1, nu 0, nu 0, nu 0, .sl 63139 0 1 3 true] true []))
def LaNO3 : Nat × AObj := (63209, (cl [nu 2, nu 0, .nils, nu 1, .sym .i64 (.lin 0 [(0, 4)]), .nils] true []))
def LaNO4 : Nat × AObj := (63260, (cl [nu 3, nu 0, .nils, nu 2, nu 0, .nils] true []))
def LaNO5 : Nat × AObj := (63269, (cl [nu 12, nu 0, .sl 63260 0 2 3 true, nu 1, nu 0, .nils] true []))
def LaNO6 : Nat × AObj := (63301, (cl [nu 2, nu 0, .nils, nu 1, nu 4, .nils] true []))
def LaNO7 : Nat × AObj := (63308, (cl [nu 12, nu 0, .sl 63301 0 2 3 true] true []))
def LaNO8 : Nat × AObj := (63332, (cl [nu 2, nu (-1), nu 4, nu 0, .sl 63269 0 2 3 true, nu 1, nu 0, nu 0, nu 0, .sl 63308 0 1 3 true] true [63293]))
def LaNO9 : Nat × AObj := (63393, (cl [nu 3, nu 1, .nils, nu 1, nu 0, .nils] true []))
def LaNO10 : Nat × AObj := (63472, (cl [nu 3, nu 2, .nils, nu 1, nu 0, .nils] true []))
def LaNO11 : Nat × AObj := (63552, (cl [nu 3, nu 3, .nils, nu 3, nu 0, .nils] true []))
def LaNO12 : Nat × AObj := (63646, (cl [nu 3, nu 1, .nils, nu 1, nu 0, .nils] true []))
def LaNO13 : Nat × AObj := (63670, (cl [nu 2, nu (-1), nu 4, nu 0, .sl 63393 0 2 3 true, nu 2, nu (-1), nu 4, nu 0, .sl 63472 0 2 3 true, nu 2, nu (-1), nu 8, nu 0, .sl 63552 0 2 3 true, nu 2, nu (-1), nu 4, nu 0, .sl 63646 0 2 3 true] true [63576, 63496, 63417]))
def LaNO14 : Nat × AObj := (63744, (cl [nu 3, nu 1, .nils] true []))
def LaNO15 : Nat × AObj := (63819, (cl [nu 7, nu 0, .sl 63744 0 1 3 true, nu 1, .sym .i64 (.lin 0 [(0, 1)]), .nils] true []))
def LaNO16 : Nat × AObj := (63896, (cl [nu 3, nu 3, .nils] true []))
def LaNO17 : Nat × AObj := (63906, (cl [nu 8, nu 0, .sl 63896 0 1 3 true] true []))
def LaNO18 : Nat × AObj := (63940, (cl [nu 2, nu 1, .nils, nu 1, nu 4, .nils] true []))
def LaNO19 : Nat × AObj := (63953, (cl [nu 3, nu 3, .nils, nu 12, nu 0, .sl 63940 0 2 3 true] true []))
def LaNO20 : Nat × AObj := (64061, (cl [nu 3, nu 1, .nils] true []))
def LaNO21 : Nat × AObj := (64137, (cl [nu 7, nu 0, .sl 64061 0 1 3 true, nu 1, .sym .i64 (.lin 0 [(2, 1)]), .nils] true []))
def LaNO22 : Nat × AObj := (64145, (cl [nu 14, nu 0, .sl 64137 0 2 3 true] true []))
def LaNO23 : Nat × AObj := (64231, (cl [nu 33, nu 0, .sl 64145 0 1 3 true, nu 1, .sym .i64 (.lin 0 [(3, 1)]), .nils] true []))
def LaNO24 : Nat × AObj := (64239, (cl [nu 12, nu 0, .sl 64231 0 2 3 true] true []))
def LaNO25 : Nat × AObj := (64283, (cl [nu 2, nu 1, .nils, nu 33, nu 0, .sl 64239 0 1 3 true] true []))
def LaNO26 : Nat × AObj := (64307, (cl [nu 1, nu 1, nu 0, nu 0, .sl 63906 0 1 3 true, nu 2, nu (-1), nu 8, nu 0, .sl 63953 0 2 3 true, nu 2, nu (-1), nu 4, nu 0, .sl 64283 0 2 3 true] true [63977, 63930]))
def LaNO27 : Nat × AObj := (64391, (cl [nu 3, nu 1, .nils] true []))
def LaNO28 : Nat × AObj := (64402, (cl [nu 7, nu 0, .sl 64391 0 1 3 true] true []))
def LaNO29 : Nat × AObj := (64431, (cl [nu 2, nu 2, .nils, nu 1, nu 1, .nils] true []))
def LaNO30 : Nat × AObj := (64440, (cl [nu 12, nu 0, .sl 64431 0 2 3 true] true []))
def LaNO31 : Nat × AObj := (64454, (cl [nu 3, nu 1, .nils, nu 33, nu 0, .sl 64440 0 1 3 true] true []))
def LaNO32 : Nat × AObj := (64478, (cl [nu 1, nu 2, nu 0, nu 0, .sl 64402 0 1 3 true, nu 2, nu (-1), nu 4, nu 0, .sl 64454 0 2 3 true] true [64426]))
def LaNO33 : Nat × AObj := (64578, (cl [nu 3, nu 3, .nils] true []))
def LaNO34 : Nat × AObj := (64635, (cl [nu 8, nu 0, .sl 64578 0 1 3 true, nu 3, nu 0, .nils] true []))
def LaNO35 : Nat × AObj := (64641, (cl [nu 13, nu 0, .sl 64635 0 2 3 true, nu 1, nu 2, .nils] true []))
def LaNO36 : Nat × AObj := (64675, (cl [nu 24, nu 0, .sl 64641 0 2 3 true] true []))
def LaNO37 : Nat × AObj := (64699, (cl [nu 4, nu (-1), nu 0, nu 0, .sl 64675 0 1 3 false] true []))
def LaNO38 : Nat × AObj := (64789, (cl [nu 3, nu 3, .nils] true []))
def LaNO39 : Nat × AObj := (64844, (cl [nu 8, nu 0, .sl 64789 0 1 3 true, nu 3, nu 0, .nils] true []))
def LaNO40 : Nat × AObj := (64991, (cl [nu 3, nu 2, .nils] true []))
def LaNO41 : Nat × AObj := (65067, (cl [nu 7, nu 0, .sl 64991 0 1 3 true, nu 1, nu 3, .nils] true []))
def LaNO42 : Nat × AObj := (65075, (cl [nu 14, nu 0, .sl 65067 0 2 3 true] true []))
def LaNO43 : Nat × AObj := (65097, (cl [nu 33, nu 0, .sl 65075 0 1 3 true] true []))
def LaNO44 : Nat × AObj := (65149, (cl [nu 3, nu 3, .nils] true []))
def LaNO45 : Nat × AObj := (65159, (cl [nu 8, nu 0, .sl 65149 0 1 3 true] true []))
def LaNO46 : Nat × AObj := (65193, (cl [nu 2, nu 4, .nils, nu 1, nu 4, .nils] true []))
def LaNO47 : Nat × AObj := (65200, (cl [nu 13, nu 0, .sl 65193 0 2 3 true] true []))
def LaNO48 : Nat × AObj := (65235, (cl [nu 3, nu 3, .nils, nu 2, nu 5, .nils] true []))
def LaNO49 : Nat × AObj := (65265, (cl [nu 2, nu 5, .nils] true []))
def LaNO50 : Nat × AObj := (65331, (cl [nu 2, nu 3, .nils, nu 7, nu 0, .sl 65265 0 1 3 true] true []))
def LaNO51 : Nat × AObj := (65339, (cl [nu 12, nu 0, .sl 65331 0 2 3 true] true []))
def LaNO52 : Nat × AObj := (65377, (cl [nu 3, nu 2, .nils, nu 33, nu 0, .sl 65339 0 1 3 true] true []))
def LaNO53 : Nat × AObj := (65401, (cl [nu 1, nu 3, nu 0, nu 0, .sl 65097 0 1 3 true, nu 1, nu 4, nu 0, nu 0, .sl 65159 0 1 3 true, nu 1, nu 5, nu 0, nu 0, .sl 65200 0 1 3 true, nu 2, nu (-1), nu 8, nu 0, .sl 65235 0 2 3 true, nu 2, nu (-1), nu 4, nu 0, .sl 65377 0 2 3 true] true [65259, 65224, 65183, 65121]))
def LaNO54 : Nat × AObj := (65508, (cl [nu 3, nu 2, .nils] true []))
def LaNO55 : Nat × AObj := (65525, (cl [nu 7, nu 0, .sl 65508 0 1 3 true] true []))
def LaNO56 : Nat × AObj := (65616, (cl [nu 3, nu 3, .nils] true []))
def LaNO57 : Nat × AObj := (65641, (cl [nu 8, nu 0, .sl 65616 0 1 3 true, nu 1, .sym .i64 (.lin 0 [(1, 4)]), .nils] true []))
def LaNO58 : Nat × AObj := (65671, (cl [nu 12, nu 0, .sl 65641 0 2 3 true] true []))
def LaNO59 : Nat × AObj := (65688, (cl [nu 7, nu 0, .sl 65671 0 1 3 true] true []))
def LaNO60 : Nat × AObj := (65712, (cl [nu 4, nu (-1), nu 0, nu 0, .sl 65525 0 1 3 false, nu 4, nu (-1), nu 0, nu 0, .sl 65688 0 1 3 false] true [65549]))
def LaNO61 : Nat × AObj := (65791, (cl [.sl 63163 0 1 5 false, nu 1, nu 0, nu 0, .nils, nu 1, nu 0, .nils, nu 2, nu 27, nu 0, .sl 63209 0 2 3 true, nu 2, nu 3, .sl 63332 0 2 5 false, nu 1, nu 0, nu 0, .nils, nu 1, nu 0, .sl 63670 0 4 5 false, nu 1, nu 0, nu 0, .nils, nu 4, nu 0, .nils, nu 2, nu 27, nu 0, .sl 63819 0 2 3 true, nu 7, nu 5, .sl 64699 0 1 5 false, nu 1, nu 0, nu 0, .nils, nu 8, nu 0, .sl 64478 0 2 5 false, nu 1, nu 0, nu 0, .nils, nu 4, nu 0, .sl 64307 0 3 5 false, nu 1, nu 0, nu 0, .nils, nu 6, nu 0, .nils, nu 2, nu 26, nu 0, .sl 64844 0 2 3 true, nu 10, nu 9, .sl 65712 0 2 5 false, nu 3, nu 1, nu 0, .nils, nu 0, nu 0, .sl 65401 0 5 5 false, nu 1, nu 0, nu 0, .nils, nu 8, nu 0, .nils, nu 3, nu 1, nu 0, .nils, nu 0, nu 0] true []))
def LaNO62 : Nat × AObj := (65829, (cl [nu 0, nu 6, .sl 63113 0 4 3 false, .sl 65791 0 12 7 false] true []))
def LaNO63 : Nat × AObj := (69866, (cl [.nils, .sl 65829 0 1 4 false, nu 0, .nils, nu 40200, nu 0, nu 0, .nils, nu 55, nu 1, .sl 70067 0 5 3 false, nu 1] true []))
def LaNO64 : Nat × AObj := (69887, (cl [nu 0, nu 32, nu 1, nu 0, nu 0, nu 0, nu 0, nu 0, nu 0, nu 0, nu 0, nu 0] true []))
def LaNO65 : Nat × AObj := (69889, (cl [nu 0, nu 6, .sl 63113 0 4 3 false, .sl 65791 0 12 7 false, .sl 69887 0 6 2 true, .sl 70068 0 4 1 false] true []))
def LaNO66 : Nat × AObj := (69929, (cl [nu 0, nu 0, nu 0, nu 0, nu 0, nu 0, nu 0, nu 0, nu 0, nu 0, nu 0, nu 0, nu 0, nu 0, nu 0, nu 0] true []))
def LaNO67 : Nat × AObj := (69970, (cl [nu 0, nu 0] true []))
def LaNO68 : Nat × AObj := (70011, (cl [nu 0, nu 0] true []))
def LaNO69 : Nat × AObj := (70052, (cl [nu 1, nu 4] true []))
def LaNO70 : Nat × AObj := (70067, (cl [nu 0, .nils, .bool false, nu 4, .sl 69929 0 8 2 true, .bool true, nu 4, .sl 69970 0 1 2 true, .bool true, nu 4, .sl 70011 0 1 2 true, .bool true, nu 8, .sl 70052 0 1 2 true, .bool true] true [70026, 69985, 69944, 69924]))
def LaNO71 : Nat × AObj := (70068, (cl [nu 1, nu 2, nu 3, nu 4] true [70027, 69986, 69945]))
def LaNO72 : Nat × AObj := (69866, (cl [.nils, .sl 65829 0 1 4 false, nu 0, .nils, nu 40200, nu 0, nu 0, .nils, nu 63, nu 1, .sl 70067 0 5 3 false, nu 1] true []))
def LaNO73 : Nat × AObj := (69887, (cl [nu 0, nu 32, nu 1, nu 4, nu 0, nu 0, nu 0, nu 0, nu 0, nu 0, nu 0, nu 0] true []))
def LaNO74 : Nat × AObj := (69929, (cl [nu 0, .sym .i64 (.lin 0 [(3, 1)]), nu 0, nu 0, nu 0, nu 0, nu 0, nu 0, nu 0, nu 0, nu 0, nu 0, nu 0, nu 0, nu 0, nu 0] true []))
def LaNO75 : Nat × AObj := (69970, (cl [nu 0, nu 1] true []))
def LaNO76 : Nat × AObj := (70052, (cl [nu 1, nu 8] true []))
def LaNO77 : Nat × AObj := (69866, (cl [.nils, .sl 65829 0 1 4 false, nu 0, .nils, nu 40200, nu 0, nu 0, .nils, nu 71, nu 1, .sl 70067 0 5 3 false, nu 1] true []))
def LaNO78 : Nat × AObj := (69887, (cl [nu 0, nu 32, nu 1, nu 8, nu 0, nu 1, nu 0, nu 0, nu 0, nu 0, nu 0, nu 0] true []))
def LaNO79 : Nat × AObj := (69929, (cl [nu 0, .sym .i64 (.lin 0 [(3, 1)]), nu 0, .sym .i64 (.lin 0 [(2, 1), (3, 1)]), nu 0, nu 0, nu 0, nu 0, nu 0, nu 0, nu 0, nu 0, nu 0, nu 0, nu 0, nu 0] true []))
def LaNO80 : Nat × AObj := (69970, (cl [nu 0, nu 2] true []))
def LaNO81 : Nat × AObj := (70052, (cl [nu 1, nu 12] true []))
def LaNO82 : Nat × AObj := (69866, (cl [.nils, .sl 65829 0 1 4 false, nu 0, .nils, nu 40200, nu 0, nu 0, .nils, nu 79, nu 1, .sl 70067 0 5 3 false, nu 1] true []))
def LaNO83 : Nat × AObj := (69887, (cl [nu 0, nu 32, nu 1, nu 12, nu 0, nu 2, nu 0, nu 0, nu 0, nu 0, nu 0, nu 0] true []))
def LaNO84 : Nat × AObj := (69929, (cl [nu 0, .sym .i64 (.lin 0 [(3, 1)]), nu 0, .sym .i64 (.lin 0 [(2, 1), (3, 1)]), nu 0, .sym .i64 (.lin 0 [(2, 2), (3, 1)]), nu 0, nu 0, nu 0, nu 0, nu 0, nu 0, nu 0, nu 0, nu 0, nu 0] true []))
def LaNO85 : Nat × AObj := (69970, (cl [nu 0, nu 3] true []))
def LaNO86 : Nat × AObj := (70052, (cl [nu 1, nu 16] true []))
def LaNO87 : Nat × AObj := (69866, (cl [.nils, .sl 65829 0 1 4 false, nu 0, .nils, nu 40200, nu 0, nu 0, .nils, nu 87, nu 1, .sl 70067 0 5 3 false, nu 1] true []))
def LaNO88 : Nat × AObj := (69887, (cl [nu 0, nu 32, nu 1, nu 16, nu 0, nu 3, nu 0, nu 0, nu 0, nu 0, nu 0, nu 0] true []))
def LaNO89 : Nat × AObj := (69929, (cl [nu 0, .sym .i64 (.lin 0 [(3, 1)]), nu 0, .sym .i64 (.lin 0 [(2, 1), (3, 1)]), nu 0, .sym .i64 (.lin 0 [(2, 2), (3, 1)]), nu 0, .sym .i64 (.lin 0 [(2, 3), (3, 1)]), nu 0, nu 0, nu 0, nu 0, nu 0, nu 0, nu 0, nu 0] true []))
def LaNO90 : Nat × AObj := (69970, (cl [nu 0, nu 4] true []))
def LaNO91 : Nat × AObj := (70052, (cl [nu 1, nu 20] true []))
def LaNO92 : Nat × AObj := (69866, (cl [.nils, .sl 65829 0 1 4 false, nu 0, .nils, nu 40200, nu 0, nu 0, .nils, nu 95, nu 1, .sl 70067 0 5 3 false, nu 1] true []))
def LaNO93 : Nat × AObj := (69887, (cl [nu 0, nu 32, nu 1, nu 20, nu 0, nu 4, nu 0, nu 0, nu 0, nu 0, nu 0, nu 0] true []))
def LaNO94 : Nat × AObj := (69929, (cl [nu 0, .sym .i64 (.lin 0 [(3, 1)]), nu 0, .sym .i64 (.lin 0 [(2, 1), (3, 1)]), nu 0, .sym .i64 (.lin 0 [(2, 2), (3, 1)]), nu 0, .sym .i64 (.lin 0 [(2, 3), (3, 1)]), nu 0, .sym .i64 (.lin 0 [(2, 4), (3, 1)]), nu 0, nu 0, nu 0, nu 0, nu 0, nu 0] true []))
def LaNO95 : Nat × AObj := (69970, (cl [nu 0, nu 5] true []))
def LaNO96 : Nat × AObj := (70052, (cl [nu 1, nu 24] true []))
def LaNO97 : Nat × AObj := (69866, (cl [.nils, .sl 65829 0 1 4 false, nu 0, .nils, nu 40200, nu 0, nu 0, .nils, nu 103, nu 1, .sl 70067 0 5 3 false, nu 1] true []))
def LaNO98 : Nat × AObj := (69887, (cl [nu 0, nu 32, nu 1, nu 24, nu 0, nu 5, nu 0, nu 0, nu 0, nu 0, nu 0, nu 0] true []))
def LaNO99 : Nat × AObj := (69929, (cl [nu 0, .sym .i64 (.lin 0 [(3, 1)]), nu 0, .sym .i64 (.lin 0 [(2, 1), (3, 1)]), nu 0, .sym .i64 (.lin 0 [(2, 2), (3, 1)]), nu 0, .sym .i64 (.lin 0 [(2, 3), (3, 1)]), nu 0, .sym .i64 (.lin 0 [(2, 4), (3, 1)]), nu 0, .sym .i64 (.lin 0 [(2, 5), (3, 1)]), nu 0, nu 0, nu 0, nu 0] true []))
def LaNO100 : Nat × AObj := (69970, (cl [nu 0, nu 6] true []))
def LaNO101 : Nat × AObj := (70052, (cl [nu 1, nu 28] true []))
def LaNO102 : Nat × AObj := (69866, (cl [.nils, .sl 65829 0 1 4 false, nu 0, .nils, nu 40200, nu 0, nu 0, .nils, nu 111, nu 1, .sl 70067 0 5 3 false, nu 1] true []))
def LaNO103 : Nat × AObj := (69887, (cl [nu 0, nu 32, nu 1, nu 28, nu 0, nu 6, nu 0, nu 0, nu 0, nu 0, nu 0, nu 0] true []))
def LaNO104 : Nat × AObj := (69929, (cl [nu 0, .sym .i64 (.lin 0 [(3, 1)]), nu 0, .sym .i64 (.lin 0 [(2, 1), (3, 1)]), nu 0, .sym .i64 (.lin 0 [(2, 2), (3, 1)]), nu 0, .sym .i64 (.lin 0 [(2, 3), (3, 1)]), nu 0, .sym .i64 (.lin 0 [(2, 4), (3, 1)]), nu 0, .sym .i64 (.lin 0 [(2, 5), (3, 1)]), nu 0, .sym .i64 (.lin 0 [(2, 6), (3, 1)]), nu 0, nu 0] true []))
def LaNO105 : Nat × AObj := (69970, (cl [nu 0, nu 7] true []))
def LaNO106 : Nat × AObj := (70052, (cl [nu 1, nu 32] true []))
def LaNO107 : Nat × AObj := (69866, (cl [.nils, .sl 65829 0 1 4 false, nu 0, .nils, nu 40200, nu 0, nu 0, .nils, nu 116, nu 1, .sl 70067 0 5 3 false, nu 1] true []))
def LaNO108 : Nat × AObj := (69887, (cl [nu 0, nu 32, nu 1, nu 28, nu 0, nu 7, nu 0, nu 0, nu 0, nu 0, nu 0, nu 0] true []))
def LaNO109 : Nat × AObj := (69929, (cl [nu 0, .sym .i64 (.lin 0 [(3, 1)]), nu 0, .sym .i64 (.lin 0 [(2, 1), (3, 1)]), nu 0, .sym .i64 (.lin 0 [(2, 2), (3, 1)]), nu 0, .sym .i64 (.lin 0 [(2, 3), (3, 1)]), nu 0, .sym .i64 (.lin 0 [(2, 4), (3, 1)]), nu 0, .sym .i64 (.lin 0 [(2, 5), (3, 1)]), nu 0, .sym .i64 (.lin 0 [(2, 6), (3, 1)]), nu 0, .sym .i64 (.lin 0 [(2, 7), (3, 1)])] true []))
def LaNO110 : Nat × AObj := (69970, (cl [nu 0, nu 8] true []))
def LaNO111 : Nat × AObj := (69866, (cl [.nils, .sl 65829 0 1 4 false, nu 0, .nils, nu 40200, nu 0, nu 0, .sl 84169 0 1 1 false, nu 117, nu 1, .sl 70067 0 5 3 false, nu 1] true []))
def LaNO112 : Nat × AObj := (84169, (cl [nu 8] true []))
def LaNO113 : Nat × AObj := (69866, (cl [.nils, .sl 65829 0 1 4 false, nu 0, .nils, nu 40200, nu 0, nu 0, .sl 84169 0 1 1 false, nu 123, nu 1, .sl 70067 0 5 3 false, nu 1] true []))
def LaNO114 : Nat × AObj := (69887, (cl [nu 0, nu 32, nu 1, nu 28, nu 0, nu 7, nu 0, nu 0, nu 1, nu 32, nu 1, nu 28] true []))
def LaNO115 : Nat × AObj := (69866, (cl [.nils, .sl 65829 0 1 4 false, nu 0, .nils, nu 40200, nu 0, nu 0, .sl 84169 0 1 1 false, nu 124, nu 1, .sl 70067 0 5 3 false, nu 1] true []))
def LaNO116 : Nat × AObj := (70011, (cl [nu 0, .sym .i64 (.lin 0 [(2, 7), (3, 1)])] true []))
def LaNO117 : Nat × AObj := (69866, (cl [.nils, .sl 65829 0 1 4 false, nu 0, .nils, nu 40200, nu 0, nu 0, .sl 84169 0 1 1 false, nu 130, nu 1, .sl 70067 0 5 3 false, nu 1] true []))
def LaNO118 : Nat × AObj := (69887, (cl [nu 0, nu 32, nu 1, nu 28, nu 0, nu 7, nu 0, .sym .i64 (.lin 0 [(2, 21), (3, 3)]), nu 1, nu 28, nu 1, nu 24] true []))
def LaNO119 : Nat × AObj := (69866, (cl [.nils, .sl 65829 0 1 4 false, nu 0, .nils, nu 40200, nu 0, nu 0, .sl 84169 0 1 1 false, nu 131, nu 1, .sl 70067 0 5 3 false, nu 1] true []))
def LaNO120 : Nat × AObj := (70011, (cl [nu 0, .sym .i64 (.lin 0 [(2, 27), (3, 4)])] true []))
def LaNO121 : Nat × AObj := (69866, (cl [.nils, .sl 65829 0 1 4 false, nu 0, .nils, nu 40200, nu 0, nu 0, .sl 84169 0 1 1 false, nu 137, nu 1, .sl 70067 0 5 3 false, nu 1] true []))
def LaNO122 : Nat × AObj := (69887, (cl [nu 0, nu 32, nu 1, nu 28, nu 0, nu 7, nu 0, .sym .i64 (.lin 0 [(2, 81), (3, 12)]), nu 1, nu 24, nu 1, nu 20] true []))
def LaNO123 : Nat × AObj := (69866, (cl [.nils, .sl 65829 0 1 4 false, nu 0, .nils, nu 40200, nu 0, nu 0, .sl 84169 0 1 1 false, nu 138, nu 1, .sl 70067 0 5 3 false, nu 1] true []))
def LaNO124 : Nat × AObj := (70011, (cl [nu 0, .sym .i64 (.lin 0 [(2, 86), (3, 13)])] true []))
def LaNO125 : Nat × AObj := (69866, (cl [.nils, .sl 65829 0 1 4 false, nu 0, .nils, nu 40200, nu 0, nu 0, .sl 84169 0 1 1 false, nu 144, nu 1, .sl 70067 0 5 3 false, nu 1] true []))
def LaNO126 : Nat × AObj := (69887, (cl [nu 0, nu 32, nu 1, nu 28, nu 0, nu 7, nu 0, .sym .i64 (.lin 0 [(2, 258), (3, 39)]), nu 1, nu 20, nu 1, nu 16] true []))
def LaNO127 : Nat × AObj := (69866, (cl [.nils, .sl 65829 0 1 4 false, nu 0, .nils, nu 40200, nu 0, nu 0, .sl 84169 0 1 1 false, nu 145, nu 1, .sl 70067 0 5 3 false, nu 1] true []))
def LaNO128 : Nat × AObj := (70011, (cl [nu 0, .sym .i64 (.lin 0 [(2, 262), (3, 40)])] true []))
def LaNO129 : Nat × AObj := (69866, (cl [.nils, .sl 65829 0 1 4 false, nu 0, .nils, nu 40200, nu 0, nu 0, .sl 84169 0 1 1 false, nu 151, nu 1, .sl 70067 0 5 3 false, nu 1] true []))
def LaNO130 : Nat × AObj := (69887, (cl [nu 0, nu 32, nu 1, nu 28, nu 0, nu 7, nu 0, .sym .i64 (.lin 0 [(2, 786), (3, 120)]), nu 1, nu 16, nu 1, nu 12] true []))
def LaNO131 : Nat × AObj := (69866, (cl [.nils, .sl 65829 0 1 4 false, nu 0, .nils, nu 40200, nu 0, nu 0, .sl 84169 0 1 1 false, nu 152, nu 1, .sl 70067 0 5 3 false, nu 1] true []))
def LaNO132 : Nat × AObj := (70011, (cl [nu 0, .sym .i64 (.lin 0 [(2, 789), (3, 121)])] true []))
def LaNO133 : Nat × AObj := (69866, (cl [.nils, .sl 65829 0 1 4 false, nu 0, .nils, nu 40200, nu 0, nu 0, .sl 84169 0 1 1 false, nu 158, nu 1, .sl 70067 0 5 3 false, nu 1] true []))
def LaNO134 : Nat × AObj := (69887, (cl [nu 0, nu 32, nu 1, nu 28, nu 0, nu 7, nu 0, .sym .i64 (.lin 0 [(2, 2367), (3, 363)]), nu 1, nu 12, nu 1, nu 8] true []))
def LaNO135 : Nat × AObj := (69866, (cl [.nils, .sl 65829 0 1 4 false, nu 0, .nils, nu 40200, nu 0, nu 0, .sl 84169 0 1 1 false, nu 159, nu 1, .sl 70067 0 5 3 false, nu 1] true []))
def LaNO136 : Nat × AObj := (70011, (cl [nu 0, .sym .i64 (.lin 0 [(2, 2369), (3, 364)])] true []))
def LaNO137 : Nat × AObj := (69866, (cl [.nils, .sl 65829 0 1 4 false, nu 0, .nils, nu 40200, nu 0, nu 0, .sl 84169 0 1 1 false, nu 165, nu 1, .sl 70067 0 5 3 false, nu 1] true []))
def LaNO138 : Nat × AObj := (69887, (cl [nu 0, nu 32, nu 1, nu 28, nu 0, nu 7, nu 0, .sym .i64 (.lin 0 [(2, 7107), (3, 1092)]), nu 1, nu 8, nu 1, nu 4] true []))
def LaNO139 : Nat × AObj := (69866, (cl [.nils, .sl 65829 0 1 4 false, nu 0, .nils, nu 40200, nu 0, nu 0, .sl 84169 0 1 1 false, nu 166, nu 1, .sl 70067 0 5 3 false, nu 1] true []))
def LaNO140 : Nat × AObj := (70011, (cl [nu 0, .sym .i64 (.lin 0 [(2, 7108), (3, 1093)])] true []))
def LaNO141 : Nat × AObj := (69866, (cl [.nils, .sl 65829 0 1 4 false, nu 0, .nils, nu 40200, nu 0, nu 0, .sl 84169 0 1 1 false, nu 172, nu 1, .sl 70067 0 5 3 false, nu 1] true []))
def LaNO142 : Nat × AObj := (69887, (cl [nu 0, nu 32, nu 1, nu 28, nu 0, nu 7, nu 0, .sym .i64 (.lin 0 [(2, 21324), (3, 3279)]), nu 1, nu 4, nu 1, nu 0] true []))
def LaNO143 : Nat × AObj := (70052, (cl [nu 1, nu 0] true []))
def LaNO144 : Nat × AObj := (69866, (cl [.nils, .sl 65829 0 1 4 false, nu 0, .nils, nu 40200, nu 0, nu 0, .sl 84169 0 1 1 false, nu 173, nu 1, .sl 70067 0 5 3 false, nu 1] true []))
def LaNO145 : Nat × AObj := (70011, (cl [nu 0, .sym .i64 (.lin 0 [(2, 21324), (3, 3280)])] true []))
def LaNE0 : Ent := ⟨66, (.cons (.ptr 69866 0) (.cons (.ptr 69889 0) (.cons (.agg (avs [(nu 33), (nu 0), (.sl 64239 0 1 3 true)])) .nil))), ⟨[LaNO0, LaNO1, LaNO2, LaNO3, LaNO4, LaNO5, LaNO6, LaNO7, LaNO8, LaNO9, LaNO10, LaNO11, LaNO12, LaNO13, LaNO14, LaNO15, LaNO16, LaNO17, LaNO18, LaNO19, LaNO20, LaNO21, LaNO22, LaNO23, LaNO24, LaNO25, LaNO26, LaNO27, LaNO28, LaNO29, LaNO30, LaNO31, LaNO32, LaNO33, LaNO34, LaNO35, LaNO36, LaNO37, LaNO38, LaNO39, LaNO40, LaNO41, LaNO42, LaNO43, LaNO44, LaNO45, LaNO46, LaNO47, LaNO48, LaNO49, LaNO50, LaNO51, LaNO52, LaNO53, LaNO54, LaNO55, LaNO56, LaNO57, LaNO58, LaNO59, LaNO60, LaNO61, LaNO62, LaNO63, LaNO64, LaNO65, LaNO66, LaNO67, LaNO68, LaNO69, LaNO70, LaNO71], 74214⟩, (.tup (avs [(.agg (avs [(nu 0), (.sym .i64 (.lin 0 [(3, 1)]))])), (.bool true)])), ⟨[LaNO0, LaNO1, LaNO2, LaNO3, LaNO4, LaNO5, LaNO6, LaNO7, LaNO8, LaNO9, LaNO10, LaNO11, LaNO12, LaNO13, LaNO14, LaNO15, LaNO16, LaNO17, LaNO18, LaNO19, LaNO20, LaNO21, LaNO22, LaNO23, LaNO24, LaNO25, LaNO26, LaNO27, LaNO28, LaNO29, LaNO30, LaNO31, LaNO32, LaNO33, LaNO34, LaNO35, LaNO36, LaNO37, LaNO38, LaNO39, LaNO40, LaNO41, LaNO42, LaNO43, LaNO44, LaNO45, LaNO46, LaNO47, LaNO48, LaNO49, LaNO50, LaNO51, LaNO52, LaNO53, LaNO54, LaNO55, LaNO56, LaNO57, LaNO58, LaNO59, LaNO60, LaNO61, LaNO62, LaNO63, LaNO64, LaNO65, LaNO66, LaNO67, LaNO68, LaNO69, LaNO70, LaNO71], 74472⟩⟩
theorem LaNT0 [In4] (hn : In4.n = (8 : Nat)) : @Ent.check (envN 8 hn) Tryz.prog (@knownA (envN 8 hn)) [] 990 LaNE0 = true := by kernel_rfl
theorem LaNK0 [In4] (hn : In4.n = (8 : Nat)) : LaNE0.Ok Tryz.prog Keep.none :=
  letI := envN 8 hn
  Ent.ok_of mixed (X := knownA) (knownN_ok 8 hn) Tab.ok_nil (LaNT0 hn)
def LaNE1 : Ent := ⟨66, (.cons (.ptr 69866 0) (.cons (.ptr 69889 0) (.cons (.agg (avs [(nu 33), (nu 0), (.sl 64239 0 1 3 true)])) .nil))), ⟨[LaNO0, LaNO1, LaNO2, LaNO3, LaNO4, LaNO5, LaNO6, LaNO7, LaNO8, LaNO9, LaNO10, LaNO11, LaNO12, LaNO13, LaNO14, LaNO15, LaNO16, LaNO17, LaNO18, LaNO19, LaNO20, LaNO21, LaNO22, LaNO23, LaNO24, LaNO25, LaNO26, LaNO27, LaNO28, LaNO29, LaNO30, LaNO31, LaNO32, LaNO33, LaNO34, LaNO35, LaNO36, LaNO37, LaNO38, LaNO39, LaNO40, LaNO41, LaNO42, LaNO43, LaNO44, LaNO45, LaNO46, LaNO47, LaNO48, LaNO49, LaNO50, LaNO51, LaNO52, LaNO53, LaNO54, LaNO55, LaNO56, LaNO57, LaNO58, LaNO59, LaNO60, LaNO61, LaNO62, LaNO72, LaNO73, LaNO65, LaNO74, LaNO75, LaNO68, LaNO76, LaNO70, LaNO71], 75473⟩, (.tup (avs [(.agg (avs [(nu 0), (.sym .i64 (.lin 0 [(2, 1), (3, 1)]))])), (.bool true)])), ⟨[LaNO0, LaNO1, LaNO2, LaNO3, LaNO4, LaNO5, LaNO6, LaNO7, LaNO8, LaNO9, LaNO10, LaNO11, LaNO12, LaNO13, LaNO14, LaNO15, LaNO16, LaNO17, LaNO18, LaNO19, LaNO20, LaNO21, LaNO22, LaNO23, LaNO24, LaNO25, LaNO26, LaNO27, LaNO28, LaNO29, LaNO30, LaNO31, LaNO32, LaNO33, LaNO34, LaNO35, LaNO36, LaNO37, LaNO38, LaNO39, LaNO40, LaNO41, LaNO42, LaNO43, LaNO44, LaNO45, LaNO46, LaNO47, LaNO48, LaNO49, LaNO50, LaNO51, LaNO52, LaNO53, LaNO54, LaNO55, LaNO56, LaNO57, LaNO58, LaNO59, LaNO60, LaNO61, LaNO62, LaNO72, LaNO73, LaNO65, LaNO74, LaNO75, LaNO68, LaNO76, LaNO70, LaNO71], 75731⟩⟩
theorem LaNT1 [In4] (hn : In4.n = (8 : Nat)) : @Ent.check (envN 8 hn) Tryz.prog (@knownA (envN 8 hn)) [] 990 LaNE1 = true := by kernel_rfl
theorem LaNK1 [In4] (hn : In4.n = (8 : Nat)) : LaNE1.Ok Tryz.prog Keep.none :=
  letI := envN 8 hn
  Ent.ok_of mixed (X := knownA) (knownN_ok 8 hn) Tab.ok_nil (LaNT1 hn)
def LaNE2 : Ent := ⟨66, (.cons (.ptr 69866 0) (.cons (.ptr 69889 0) (.cons (.agg (avs [(nu 33), (nu 0), (.sl 64239 0 1 3 true)])) .nil))), ⟨[LaNO0, LaNO1, LaNO2, LaNO3, LaNO4, LaNO5, LaNO6, LaNO7, LaNO8, LaNO9, LaNO10, LaNO11, LaNO12, LaNO13, LaNO14, LaNO15, LaNO16, LaNO17, LaNO18, LaNO19, LaNO20, LaNO21, LaNO22, LaNO23, LaNO24, LaNO25, LaNO26, LaNO27, LaNO28, LaNO29, LaNO30, LaNO31, LaNO32, LaNO33, LaNO34, LaNO35, LaNO36, LaNO37, LaNO38, LaNO39, LaNO40, LaNO41, LaNO42, LaNO43, LaNO44, LaNO45, LaNO46, LaNO47, LaNO48, LaNO49, LaNO50, LaNO51, LaNO52, LaNO53, LaNO54, LaNO55, LaNO56, LaNO57, LaNO58, LaNO59, LaNO60, LaNO61, LaNO62, LaNO77, LaNO78, LaNO65, LaNO79, LaNO80, LaNO68, LaNO81, LaNO70, LaNO71], 76732⟩, (.tup (avs [(.agg (avs [(nu 0), (.sym .i64 (.lin 0 [(2, 2), (3, 1)]))])), (.bool true)])), ⟨[LaNO0, LaNO1, LaNO2, LaNO3, LaNO4, LaNO5, LaNO6, LaNO7, LaNO8, LaNO9, LaNO10, LaNO11, LaNO12, LaNO13, LaNO14, LaNO15, LaNO16, LaNO17, LaNO18, LaNO19, LaNO20, LaNO21, LaNO22, LaNO23, LaNO24, LaNO25, LaNO26, LaNO27, LaNO28, LaNO29, LaNO30, LaNO31, LaNO32, LaNO33, LaNO34, LaNO35, LaNO36, LaNO37, LaNO38, LaNO39, LaNO40, LaNO41, LaNO42, LaNO43, LaNO44, LaNO45, LaNO46, LaNO47, LaNO48, LaNO49, LaNO50, LaNO51, LaNO52, LaNO53, LaNO54, LaNO55, LaNO56, LaNO57, LaNO58, LaNO59, LaNO60, LaNO61, LaNO62, LaNO77, LaNO78, LaNO65, LaNO79, LaNO80, LaNO68, LaNO81, LaNO70, LaNO71], 76990⟩⟩
theorem LaNT2 [In4] (hn : In4.n = (8 : Nat)) : @Ent.check (envN 8 hn) Tryz.prog (@knownA (envN 8 hn)) [] 990 LaNE2 = true := by kernel_rfl
theorem LaNK2 [In4] (hn : In4.n = (8 : Nat)) : LaNE2.Ok Tryz.prog Keep.none :=
  letI := envN 8 hn
  Ent.ok_of mixed (X := knownA) (knownN_ok 8 hn) Tab.ok_nil (LaNT2 hn)
def LaNE3 : Ent := ⟨66, (.cons (.ptr 69866 0) (.cons (.ptr 69889 0) (.cons (.agg (avs [(nu 33), (nu 0), (.sl 64239 0 1 3 true)])) .nil))), ⟨[LaNO0, LaNO1, LaNO2, LaNO3, LaNO4, LaNO5, LaNO6, LaNO7, LaNO8, LaNO9, LaNO10, LaNO11, LaNO12, LaNO13, LaNO14, LaNO15, LaNO16, LaNO17, LaNO18, LaNO19, LaNO20, LaNO21, LaNO22, LaNO23, LaNO24, LaNO25, LaNO26, LaNO27, LaNO28, LaNO29, LaNO30, LaNO31, LaNO32, LaNO33, LaNO34, LaNO35, LaNO36, LaNO37, LaNO38, LaNO39, LaNO40, LaNO41, LaNO42, LaNO43, LaNO44, LaNO45, LaNO46, LaNO47, LaNO48, LaNO49, LaNO50, LaNO51, LaNO52, LaNO53, LaNO54, LaNO55, LaNO56, LaNO57, LaNO58, LaNO59, LaNO60, LaNO61, LaNO62, LaNO82, LaNO83, LaNO65, LaNO84, LaNO85, LaNO68, LaNO86, LaNO70, LaNO71], 77991⟩, (.tup (avs [(.agg (avs [(nu 0), (.sym .i64 (.lin 0 [(2, 3), (3, 1)]))])), (.bool true)])), ⟨[LaNO0, LaNO1, LaNO2, LaNO3, LaNO4, LaNO5, LaNO6, LaNO7, LaNO8, LaNO9, LaNO10, LaNO11, LaNO12, LaNO13, LaNO14, LaNO15, LaNO16, LaNO17, LaNO18, LaNO19, LaNO20, LaNO21, LaNO22, LaNO23, LaNO24, LaNO25, LaNO26, LaNO27, LaNO28, LaNO29, LaNO30, LaNO31, LaNO32, LaNO33, LaNO34, LaNO35, LaNO36, LaNO37, LaNO38, LaNO39, LaNO40, LaNO41, LaNO42, LaNO43, LaNO44, LaNO45, LaNO46, LaNO47, LaNO48, LaNO49, LaNO50, LaNO51, LaNO52, LaNO53, LaNO54, LaNO55, LaNO56, LaNO57, LaNO58, LaNO59, LaNO60, LaNO61, LaNO62, LaNO82, LaNO83, LaNO65, LaNO84, LaNO85, LaNO68, LaNO86, LaNO70, LaNO71], 78249⟩⟩
theorem LaNT3 [In4] (hn : In4.n = (8 : Nat)) : @Ent.check (envN 8 hn) Tryz.prog (@knownA (envN 8 hn)) [] 990 LaNE3 = true := by kernel_rfl
theorem LaNK3 [In4] (hn : In4.n = (8 : Nat)) : LaNE3.Ok Tryz.prog Keep.none :=
  letI := envN 8 hn
  Ent.ok_of mixed (X := knownA) (knownN_ok 8 hn) Tab.ok_nil (LaNT3 hn)
def LaNE4 : Ent := ⟨66, (.cons (.ptr 69866 0) (.cons (.ptr 69889 0) (.cons (.agg (avs [(nu 33), (nu 0), (.sl 64239 0 1 3 true)])) .nil))), ⟨[LaNO0, LaNO1, LaNO2, LaNO3, LaNO4, LaNO5, LaNO6, LaNO7, LaNO8, LaNO9, LaNO10, LaNO11, LaNO12, LaNO13, LaNO14, LaNO15, LaNO16, LaNO17, LaNO18, LaNO19, LaNO20, LaNO21, LaNO22, LaNO23, LaNO24, LaNO25, LaNO26, LaNO27, LaNO28, LaNO29, LaNO30, LaNO31, LaNO32, LaNO33, LaNO34, LaNO35, LaNO36, LaNO37, LaNO38, LaNO39, LaNO40, LaNO41, LaNO42, LaNO43, LaNO44, LaNO45, LaNO46, LaNO47, LaNO48, LaNO49, LaNO50, LaNO51, LaNO52, LaNO53, LaNO54, LaNO55, LaNO56, LaNO57, LaNO58, LaNO59, LaNO60, LaNO61, LaNO62, LaNO87, LaNO88, LaNO65, LaNO89, LaNO90, LaNO68, LaNO91, LaNO70, LaNO71], 79250⟩, (.tup (avs [(.agg (avs [(nu 0), (.sym .i64 (.lin 0 [(2, 4), (3, 1)]))])), (.bool true)])), ⟨[LaNO0, LaNO1, LaNO2, LaNO3, LaNO4, LaNO5, LaNO6, LaNO7, LaNO8, LaNO9, LaNO10, LaNO11, LaNO12, LaNO13, LaNO14, LaNO15, LaNO16, LaNO17, LaNO18, LaNO19, LaNO20, LaNO21, LaNO22, LaNO23, LaNO24, LaNO25, LaNO26, LaNO27, LaNO28, LaNO29, LaNO30, LaNO31, LaNO32, LaNO33, LaNO34, LaNO35, LaNO36, LaNO37, LaNO38, LaNO39, LaNO40, LaNO41, LaNO42, LaNO43, LaNO44, LaNO45, LaNO46, LaNO47, LaNO48, LaNO49, LaNO50, LaNO51, LaNO52, LaNO53, LaNO54, LaNO55, LaNO56, LaNO57, LaNO58, LaNO59, LaNO60, LaNO61, LaNO62, LaNO87, LaNO88, LaNO65, LaNO89, LaNO90, LaNO68, LaNO91, LaNO70, LaNO71], 79508⟩⟩
theorem LaNT4 [In4] (hn : In4.n = (8 : Nat)) : @Ent.check (envN 8 hn) Tryz.prog (@knownA (envN 8 hn)) [] 990 LaNE4 = true := by kernel_rfl
theorem LaNK4 [In4] (hn : In4.n = (8 : Nat)) : LaNE4.Ok Tryz.prog Keep.none :=
  letI := envN 8 hn
  Ent.ok_of mixed (X := knownA) (knownN_ok 8 hn) Tab.ok_nil (LaNT4 hn)
def LaNE5 : Ent := ⟨66, (.cons (.ptr 69866 0) (.cons (.ptr 69889 0) (.cons (.agg (avs [(nu 33), (nu 0), (.sl 64239 0 1 3 true)])) .nil))), ⟨[LaNO0, LaNO1, LaNO2, LaNO3, LaNO4, LaNO5, LaNO6, LaNO7, LaNO8, LaNO9, LaNO10, LaNO11, LaNO12, LaNO13, LaNO14, LaNO15, LaNO16, LaNO17, LaNO18, LaNO19, LaNO20, LaNO21, LaNO22, LaNO23, LaNO24, LaNO25, LaNO26, LaNO27, LaNO28, LaNO29, LaNO30, LaNO31, LaNO32, LaNO33, LaNO34, LaNO35, LaNO36, LaNO37, LaNO38, LaNO39, LaNO40, LaNO41, LaNO42, LaNO43, LaNO44, LaNO45, LaNO46, LaNO47, LaNO48, LaNO49, LaNO50, LaNO51, LaNO52, LaNO53, LaNO54, LaNO55, LaNO56, LaNO57, LaNO58, LaNO59, LaNO60, LaNO61, LaNO62, LaNO92, LaNO93, LaNO65, LaNO94, LaNO95, LaNO68, LaNO96, LaNO70, LaNO71], 80509⟩, (.tup (avs [(.agg (avs [(nu 0), (.sym .i64 (.lin 0 [(2, 5), (3, 1)]))])), (.bool true)])), ⟨[LaNO0, LaNO1, LaNO2, LaNO3, LaNO4, LaNO5, LaNO6, LaNO7, LaNO8, LaNO9, LaNO10, LaNO11, LaNO12, LaNO13, LaNO14, LaNO15, LaNO16, LaNO17, LaNO18, LaNO19, LaNO20, LaNO21, LaNO22, LaNO23, LaNO24, LaNO25, LaNO26, LaNO27, LaNO28, LaNO29, LaNO30, LaNO31, LaNO32, LaNO33, LaNO34, LaNO35, LaNO36, LaNO37, LaNO38, LaNO39, LaNO40, LaNO41, LaNO42, LaNO43, LaNO44, LaNO45, LaNO46, LaNO47, LaNO48, LaNO49, LaNO50, LaNO51, LaNO52, LaNO53, LaNO54, LaNO55, LaNO56, LaNO57, LaNO58, LaNO59, LaNO60, LaNO61, LaNO62, LaNO92, LaNO93, LaNO65, LaNO94, LaNO95, LaNO68, LaNO96, LaNO70, LaNO71], 80767⟩⟩
theorem LaNT5 [In4] (hn : In4.n = (8 : Nat)) : @Ent.check (envN 8 hn) Tryz.prog (@knownA (envN 8 hn)) [] 990 LaNE5 = true := by kernel_rfl
theorem LaNK5 [In4] (hn : In4.n = (8 : Nat)) : LaNE5.Ok Tryz.prog Keep.none :=
  letI := envN 8 hn
  Ent.ok_of mixed (X := knownA) (knownN_ok 8 hn) Tab.ok_nil (LaNT5 hn)
def LaNE6 : Ent := ⟨66, (.cons (.ptr 69866 0) (.cons (.ptr 69889 0) (.cons (.agg (avs [(nu 33), (nu 0), (.sl 64239 0 1 3 true)])) .nil))), ⟨[LaNO0, LaNO1, LaNO2, LaNO3, LaNO4, LaNO5, LaNO6, LaNO7, LaNO8, LaNO9, LaNO10, LaNO11, LaNO12, LaNO13, LaNO14, LaNO15, LaNO16, LaNO17, LaNO18, LaNO19, LaNO20, LaNO21, LaNO22, LaNO23, LaNO24, LaNO25, LaNO26, LaNO27, LaNO28, LaNO29, LaNO30, LaNO31, LaNO32, LaNO33, LaNO34, LaNO35, LaNO36, LaNO37, LaNO38, LaNO39, LaNO40, LaNO41, LaNO42, LaNO43, LaNO44, LaNO45, LaNO46, LaNO47, LaNO48, LaNO49, LaNO50, LaNO51, LaNO52, LaNO53, LaNO54, LaNO55, LaNO56, LaNO57, LaNO58, LaNO59, LaNO60, LaNO61, LaNO62, LaNO97, LaNO98, LaNO65, LaNO99, LaNO100, LaNO68, LaNO101, LaNO70, LaNO71], 81768⟩, (.tup (avs [(.agg (avs [(nu 0), (.sym .i64 (.lin 0 [(2, 6), (3, 1)]))])), (.bool true)])), ⟨[LaNO0, LaNO1, LaNO2, LaNO3, LaNO4, LaNO5, LaNO6, LaNO7, LaNO8, LaNO9, LaNO10, LaNO11, LaNO12, LaNO13, LaNO14, LaNO15, LaNO16, LaNO17, LaNO18, LaNO19, LaNO20, LaNO21, LaNO22, LaNO23, LaNO24, LaNO25, LaNO26, LaNO27, LaNO28, LaNO29, LaNO30, LaNO31, LaNO32, LaNO33, LaNO34, LaNO35, LaNO36, LaNO37, LaNO38, LaNO39, LaNO40, LaNO41, LaNO42, LaNO43, LaNO44, LaNO45, LaNO46, LaNO47, LaNO48, LaNO49, LaNO50, LaNO51, LaNO52, LaNO53, LaNO54, LaNO55, LaNO56, LaNO57, LaNO58, LaNO59, LaNO60, LaNO61, LaNO62, LaNO97, LaNO98, LaNO65, LaNO99, LaNO100, LaNO68, LaNO101, LaNO70, LaNO71], 82026⟩⟩
theorem LaNT6 [In4] (hn : In4.n = (8 : Nat)) : @Ent.check (envN 8 hn) Tryz.prog (@knownA (envN 8 hn)) [] 990 LaNE6 = true := by kernel_rfl
theorem LaNK6 [In4] (hn : In4.n = (8 : Nat)) : LaNE6.Ok Tryz.prog Keep.none :=
  letI := envN 8 hn
  Ent.ok_of mixed (X := knownA) (knownN_ok 8 hn) Tab.ok_nil (LaNT6 hn)
def LaNE7 : Ent := ⟨66, (.cons (.ptr 69866 0) (.cons (.ptr 69889 0) (.cons (.agg (avs [(nu 33), (nu 0), (.sl 64239 0 1 3 true)])) .nil))), ⟨[LaNO0, LaNO1, LaNO2, LaNO3, LaNO4, LaNO5, LaNO6, LaNO7, LaNO8, LaNO9, LaNO10, LaNO11, LaNO12, LaNO13, LaNO14, LaNO15, LaNO16, LaNO17, LaNO18, LaNO19, LaNO20, LaNO21, LaNO22, LaNO23, LaNO24, LaNO25, LaNO26, LaNO27, LaNO28, LaNO29, LaNO30, LaNO31, LaNO32, LaNO33, LaNO34, LaNO35, LaNO36, LaNO37, LaNO38, LaNO39, LaNO40, LaNO41, LaNO42, LaNO43, LaNO44, LaNO45, LaNO46, LaNO47, LaNO48, LaNO49, LaNO50, LaNO51, LaNO52, LaNO53, LaNO54, LaNO55, LaNO56, LaNO57, LaNO58, LaNO59, LaNO60, LaNO61, LaNO62, LaNO102, LaNO103, LaNO65, LaNO104, LaNO105, LaNO68, LaNO106, LaNO70, LaNO71], 83027⟩, (.tup (avs [(.agg (avs [(nu 0), (.sym .i64 (.lin 0 [(2, 7), (3, 1)]))])), (.bool true)])), ⟨[LaNO0, LaNO1, LaNO2, LaNO3, LaNO4, LaNO5, LaNO6, LaNO7, LaNO8, LaNO9, LaNO10, LaNO11, LaNO12, LaNO13, LaNO14, LaNO15, LaNO16, LaNO17, LaNO18, LaNO19, LaNO20, LaNO21, LaNO22, LaNO23, LaNO24, LaNO25, LaNO26, LaNO27, LaNO28, LaNO29, LaNO30, LaNO31, LaNO32, LaNO33, LaNO34, LaNO35, LaNO36, LaNO37, LaNO38, LaNO39, LaNO40, LaNO41, LaNO42, LaNO43, LaNO44, LaNO45, LaNO46, LaNO47, LaNO48, LaNO49, LaNO50, LaNO51, LaNO52, LaNO53, LaNO54, LaNO55, LaNO56, LaNO57, LaNO58, LaNO59, LaNO60, LaNO61, LaNO62, LaNO102, LaNO103, LaNO65, LaNO104, LaNO105, LaNO68, LaNO106, LaNO70, LaNO71], 83285⟩⟩
theorem LaNT7 [In4] (hn : In4.n = (8 : Nat)) : @Ent.check (envN 8 hn) Tryz.prog (@knownA (envN 8 hn)) [] 990 LaNE7 = true := by kernel_rfl
theorem LaNK7 [In4] (hn : In4.n = (8 : Nat)) : LaNE7.Ok Tryz.prog Keep.none :=
  letI := envN 8 hn
  Ent.ok_of mixed (X := knownA) (knownN_ok 8 hn) Tab.ok_nil (LaNT7 hn)
def LaNE8 : Ent := ⟨65, (.cons (.ptr 69866 0) (.cons (.ptr 69889 0) (.cons (.agg (avs [(nu 4), (nu (-1)), (nu 0), (nu 0), (.sl 64675 0 1 3 false)])) .nil))), ⟨[LaNO0, LaNO1, LaNO2, LaNO3, LaNO4, LaNO5, LaNO6, LaNO7, LaNO8, LaNO9, LaNO10, LaNO11, LaNO12, LaNO13, LaNO14, LaNO15, LaNO16, LaNO17, LaNO18, LaNO19, LaNO20, LaNO21, LaNO22, LaNO23, LaNO24, LaNO25, LaNO26, LaNO27, LaNO28, LaNO29, LaNO30, LaNO31, LaNO32, LaNO33, LaNO34, LaNO35, LaNO36, LaNO37, LaNO38, LaNO39, LaNO40, LaNO41, LaNO42, LaNO43, LaNO44, LaNO45, LaNO46, LaNO47, LaNO48, LaNO49, LaNO50, LaNO51, LaNO52, LaNO53, LaNO54, LaNO55, LaNO56, LaNO57, LaNO58, LaNO59, LaNO60, LaNO61, LaNO62, LaNO107, LaNO108, LaNO65, LaNO109, LaNO110, LaNO68, LaNO106, LaNO70, LaNO71], 83903⟩, (.bool true), ⟨[LaNO0, LaNO1, LaNO2, LaNO3, LaNO4, LaNO5, LaNO6, LaNO7, LaNO8, LaNO9, LaNO10, LaNO11, LaNO12, LaNO13, LaNO14, LaNO15, LaNO16, LaNO17, LaNO18, LaNO19, LaNO20, LaNO21, LaNO22, LaNO23, LaNO24, LaNO25, LaNO26, LaNO27, LaNO28, LaNO29, LaNO30, LaNO31, LaNO32, LaNO33, LaNO34, LaNO35, LaNO36, LaNO37, LaNO38, LaNO39, LaNO40, LaNO41, LaNO42, LaNO43, LaNO44, LaNO45, LaNO46, LaNO47, LaNO48, LaNO49, LaNO50, LaNO51, LaNO52, LaNO53, LaNO54, LaNO55, LaNO56, LaNO57, LaNO58, LaNO59, LaNO60, LaNO61, LaNO62, LaNO111, LaNO108, LaNO65, LaNO109, LaNO110, LaNO68, LaNO106, LaNO70, LaNO71, LaNO112], 84170⟩⟩
theorem LaNT8 [In4] (hn : In4.n = (8 : Nat)) : @Ent.check (envN 8 hn) Tryz.prog (@knownA (envN 8 hn)) [] 990 LaNE8 = true := by kernel_rfl
theorem LaNK8 [In4] (hn : In4.n = (8 : Nat)) : LaNE8.Ok Tryz.prog Keep.none :=
  letI := envN 8 hn
  Ent.ok_of mixed (X := knownA) (knownN_ok 8 hn) Tab.ok_nil (LaNT8 hn)
def LaNE9 : Ent := ⟨65, (.cons (.ptr 69866 0) (.cons (.ptr 69889 0) (.cons (.agg (avs [(nu 2), (nu (-1)), (nu 4), (nu 0), (.sl 65377 0 2 3 true)])) .nil))), ⟨[LaNO0, LaNO1, LaNO2, LaNO3, LaNO4, LaNO5, LaNO6, LaNO7, LaNO8, LaNO9, LaNO10, LaNO11, LaNO12, LaNO13, LaNO14, LaNO15, LaNO16, LaNO17, LaNO18, LaNO19, LaNO20, LaNO21, LaNO22, LaNO23, LaNO24, LaNO25, LaNO26, LaNO27, LaNO28, LaNO29, LaNO30, LaNO31, LaNO32, LaNO33, LaNO34, LaNO35, LaNO36, LaNO37, LaNO38, LaNO39, LaNO40, LaNO41, LaNO42, LaNO43, LaNO44, LaNO45, LaNO46, LaNO47, LaNO48, LaNO49, LaNO50, LaNO51, LaNO52, LaNO53, LaNO54, LaNO55, LaNO56, LaNO57, LaNO58, LaNO59, LaNO60, LaNO61, LaNO62, LaNO113, LaNO114, LaNO65, LaNO109, LaNO110, LaNO68, LaNO101, LaNO70, LaNO71, LaNO112], 85012⟩, (.bool true), ⟨[LaNO0, LaNO1, LaNO2, LaNO3, LaNO4, LaNO5, LaNO6, LaNO7, LaNO8, LaNO9, LaNO10, LaNO11, LaNO12, LaNO13, LaNO14, LaNO15, LaNO16, LaNO17, LaNO18, LaNO19, LaNO20, LaNO21, LaNO22, LaNO23, LaNO24, LaNO25, LaNO26, LaNO27, LaNO28, LaNO29, LaNO30, LaNO31, LaNO32, LaNO33, LaNO34, LaNO35, LaNO36, LaNO37, LaNO38, LaNO39, LaNO40, LaNO41, LaNO42, LaNO43, LaNO44, LaNO45, LaNO46, LaNO47, LaNO48, LaNO49, LaNO50, LaNO51, LaNO52, LaNO53, LaNO54, LaNO55, LaNO56, LaNO57, LaNO58, LaNO59, LaNO60, LaNO61, LaNO62, LaNO115, LaNO114, LaNO65, LaNO109, LaNO110, LaNO116, LaNO101, LaNO70, LaNO71, LaNO112], 85322⟩⟩
theorem LaNT9 [In4] (hn : In4.n = (8 : Nat)) : @Ent.check (envN 8 hn) Tryz.prog (@knownA (envN 8 hn)) [] 990 LaNE9 = true := by kernel_rfl
theorem LaNK9 [In4] (hn : In4.n = (8 : Nat)) : LaNE9.Ok Tryz.prog Keep.none :=
  letI := envN 8 hn
  Ent.ok_of mixed (X := knownA) (knownN_ok 8 hn) Tab.ok_nil (LaNT9 hn)
def LaNE10 : Ent := ⟨65, (.cons (.ptr 69866 0) (.cons (.ptr 69889 0) (.cons (.agg (avs [(nu 2), (nu (-1)), (nu 4), (nu 0), (.sl 65377 0 2 3 true)])) .nil))), ⟨[LaNO0, LaNO1, LaNO2, LaNO3, LaNO4, LaNO5, LaNO6, LaNO7, LaNO8, LaNO9, LaNO10, LaNO11, LaNO12, LaNO13, LaNO14, LaNO15, LaNO16, LaNO17, LaNO18, LaNO19, LaNO20, LaNO21, LaNO22, LaNO23, LaNO24, LaNO25, LaNO26, LaNO27, LaNO28, LaNO29, LaNO30, LaNO31, LaNO32, LaNO33, LaNO34, LaNO35, LaNO36, LaNO37, LaNO38, LaNO39, LaNO40, LaNO41, LaNO42, LaNO43, LaNO44, LaNO45, LaNO46, LaNO47, LaNO48, LaNO49, LaNO50, LaNO51, LaNO52, LaNO53, LaNO54, LaNO55, LaNO56, LaNO57, LaNO58, LaNO59, LaNO60, LaNO61, LaNO62, LaNO117, LaNO118, LaNO65, LaNO109, LaNO110, LaNO116, LaNO96, LaNO70, LaNO71, LaNO112], 86164⟩, (.bool true), ⟨[LaNO0, LaNO1, LaNO2, LaNO3, LaNO4, LaNO5, LaNO6, LaNO7, LaNO8, LaNO9, LaNO10, LaNO11, LaNO12, LaNO13, LaNO14, LaNO15, LaNO16, LaNO17, LaNO18, LaNO19, LaNO20, LaNO21, LaNO22, LaNO23, LaNO24, LaNO25, LaNO26, LaNO27, LaNO28, LaNO29, LaNO30, LaNO31, LaNO32, LaNO33, LaNO34, LaNO35, LaNO36, LaNO37, LaNO38, LaNO39, LaNO40, LaNO41, LaNO42, LaNO43, LaNO44, LaNO45, LaNO46, LaNO47, LaNO48, LaNO49, LaNO50, LaNO51, LaNO52, LaNO53, LaNO54, LaNO55, LaNO56, LaNO57, LaNO58, LaNO59, LaNO60, LaNO61, LaNO62, LaNO119, LaNO118, LaNO65, LaNO109, LaNO110, LaNO120, LaNO96, LaNO70, LaNO71, LaNO112], 86474⟩⟩
theorem LaNT10 [In4] (hn : In4.n = (8 : Nat)) : @Ent.check (envN 8 hn) Tryz.prog (@knownA (envN 8 hn)) [] 990 LaNE10 = true := by kernel_rfl
theorem LaNK10 [In4] (hn : In4.n = (8 : Nat)) : LaNE10.Ok Tryz.prog Keep.none :=
  letI := envN 8 hn
  Ent.ok_of mixed (X := knownA) (knownN_ok 8 hn) Tab.ok_nil (LaNT10 hn)
def LaNE11 : Ent := ⟨65, (.cons (.ptr 69866 0) (.cons (.ptr 69889 0) (.cons (.agg (avs [(nu 2), (nu (-1)), (nu 4), (nu 0), (.sl 65377 0 2 3 true)])) .nil))), ⟨[LaNO0, LaNO1, LaNO2, LaNO3, LaNO4, LaNO5, LaNO6, LaNO7, LaNO8, LaNO9, LaNO10, LaNO11, LaNO12, LaNO13, LaNO14, LaNO15, LaNO16, LaNO17, LaNO18, LaNO19, LaNO20, LaNO21, LaNO22, LaNO23, LaNO24, LaNO25, LaNO26, LaNO27, LaNO28, LaNO29, LaNO30, LaNO31, LaNO32, LaNO33, LaNO34, LaNO35, LaNO36, LaNO37, LaNO38, LaNO39, LaNO40, LaNO41, LaNO42, LaNO43, LaNO44, LaNO45, LaNO46, LaNO47, LaNO48, LaNO49, LaNO50, LaNO51, LaNO52, LaNO53, LaNO54, LaNO55, LaNO56, LaNO57, LaNO58, LaNO59, LaNO60, LaNO61, LaNO62, LaNO121, LaNO122, LaNO65, LaNO109, LaNO110, LaNO120, LaNO91, LaNO70, LaNO71, LaNO112], 87316⟩, (.bool true), ⟨[LaNO0, LaNO1, LaNO2, LaNO3, LaNO4, LaNO5, LaNO6, LaNO7, LaNO8, LaNO9, LaNO10, LaNO11, LaNO12, LaNO13, LaNO14, LaNO15, LaNO16, LaNO17, LaNO18, LaNO19, LaNO20, LaNO21, LaNO22, LaNO23, LaNO24, LaNO25, LaNO26, LaNO27, LaNO28, LaNO29, LaNO30, LaNO31, LaNO32, LaNO33, LaNO34, LaNO35, LaNO36, LaNO37, LaNO38, LaNO39, LaNO40, LaNO41, LaNO42, LaNO43, LaNO44, LaNO45, LaNO46, LaNO47, LaNO48, LaNO49, LaNO50, LaNO51, LaNO52, LaNO53, LaNO54, LaNO55, LaNO56, LaNO57, LaNO58, LaNO59, LaNO60, LaNO61, LaNO62, LaNO123, LaNO122, LaNO65, LaNO109, LaNO110, LaNO124, LaNO91, LaNO70, LaNO71, LaNO112], 87626⟩⟩
theorem LaNT11 [In4] (hn : In4.n = (8 : Nat)) : @Ent.check (envN 8 hn) Tryz.prog (@knownA (envN 8 hn)) [] 990 LaNE11 = true := by kernel_rfl
theorem LaNK11 [In4] (hn : In4.n = (8 : Nat)) : LaNE11.Ok Tryz.prog Keep.none :=
  letI := envN 8 hn
  Ent.ok_of mixed (X := knownA) (knownN_ok 8 hn) Tab.ok_nil (LaNT11 hn)
def LaNE12 : Ent := ⟨65, (.cons (.ptr 69866 0) (.cons (.ptr 69889 0) (.cons (.agg (avs [(nu 2), (nu (-1)), (nu 4), (nu 0), (.sl 65377 0 2 3 true)])) .nil))), ⟨[LaNO0, LaNO1, LaNO2, LaNO3, LaNO4, LaNO5, LaNO6, LaNO7, LaNO8, LaNO9, LaNO10, LaNO11, LaNO12, LaNO13, LaNO14, LaNO15, LaNO16, LaNO17, LaNO18, LaNO19, LaNO20, LaNO21, LaNO22, LaNO23, LaNO24, LaNO25, LaNO26, LaNO27, LaNO28, LaNO29, LaNO30, LaNO31, LaNO32, LaNO33, LaNO34, LaNO35, LaNO36, LaNO37, LaNO38, LaNO39, LaNO40, LaNO41, LaNO42, LaNO43, LaNO44, LaNO45, LaNO46, LaNO47, LaNO48, LaNO49, LaNO50, LaNO51, LaNO52, LaNO53, LaNO54, LaNO55, LaNO56, LaNO57, LaNO58, LaNO59, LaNO60, LaNO61, LaNO62, LaNO125, LaNO126, LaNO65, LaNO109, LaNO110, LaNO124, LaNO86, LaNO70, LaNO71, LaNO112], 88468⟩, (.bool true), ⟨[LaNO0, LaNO1, LaNO2, LaNO3, LaNO4, LaNO5, LaNO6, LaNO7, LaNO8, LaNO9, LaNO10, LaNO11, LaNO12, LaNO13, LaNO14, LaNO15, LaNO16, LaNO17, LaNO18, LaNO19, LaNO20, LaNO21, LaNO22, LaNO23, LaNO24, LaNO25, LaNO26, LaNO27, LaNO28, LaNO29, LaNO30, LaNO31, LaNO32, LaNO33, LaNO34, LaNO35, LaNO36, LaNO37, LaNO38, LaNO39, LaNO40, LaNO41, LaNO42, LaNO43, LaNO44, LaNO45, LaNO46, LaNO47, LaNO48, LaNO49, LaNO50, LaNO51, LaNO52, LaNO53, LaNO54, LaNO55, LaNO56, LaNO57, LaNO58, LaNO59, LaNO60, LaNO61, LaNO62, LaNO127, LaNO126, LaNO65, LaNO109, LaNO110, LaNO128, LaNO86, LaNO70, LaNO71, LaNO112], 88778⟩⟩
theorem LaNT12 [In4] (hn : In4.n = (8 : Nat)) : @Ent.check (envN 8 hn) Tryz.prog (@knownA (envN 8 hn)) [] 990 LaNE12 = true := by kernel_rfl
theorem LaNK12 [In4] (hn : In4.n = (8 : Nat)) : LaNE12.Ok Tryz.prog Keep.none :=
  letI := envN 8 hn
  Ent.ok_of mixed (X := knownA) (knownN_ok 8 hn) Tab.ok_nil (LaNT12 hn)
def LaNE13 : Ent := ⟨65, (.cons (.ptr 69866 0) (.cons (.ptr 69889 0) (.cons (.agg (avs [(nu 2), (nu (-1)), (nu 4), (nu 0), (.sl 65377 0 2 3 true)])) .nil))), ⟨[LaNO0, LaNO1, LaNO2, LaNO3, LaNO4, LaNO5, LaNO6, LaNO7, LaNO8, LaNO9, LaNO10, LaNO11, LaNO12, LaNO13, LaNO14, LaNO15, LaNO16, LaNO17, LaNO18, LaNO19, LaNO20, LaNO21, LaNO22, LaNO23, LaNO24, LaNO25, LaNO26, LaNO27, LaNO28, LaNO29, LaNO30, LaNO31, LaNO32, LaNO33, LaNO34, LaNO35, LaNO36, LaNO37, LaNO38, LaNO39, LaNO40, LaNO41, LaNO42, LaNO43, LaNO44, LaNO45, LaNO46, LaNO47, LaNO48, LaNO49, LaNO50, LaNO51, LaNO52, LaNO53, LaNO54, LaNO55, LaNO56, LaNO57, LaNO58, LaNO59, LaNO60, LaNO61, LaNO62, LaNO129, LaNO130, LaNO65, LaNO109, LaNO110, LaNO128, LaNO81, LaNO70, LaNO71, LaNO112], 89620⟩, (.bool true), ⟨[LaNO0, LaNO1, LaNO2, LaNO3, LaNO4, LaNO5, LaNO6, LaNO7, LaNO8, LaNO9, LaNO10, LaNO11, LaNO12, LaNO13, LaNO14, LaNO15, LaNO16, LaNO17, LaNO18, LaNO19, LaNO20, LaNO21, LaNO22, LaNO23, LaNO24, LaNO25, LaNO26, LaNO27, LaNO28, LaNO29, LaNO30, LaNO31, LaNO32, LaNO33, LaNO34, LaNO35, LaNO36, LaNO37, LaNO38, LaNO39, LaNO40, LaNO41, LaNO42, LaNO43, LaNO44, LaNO45, LaNO46, LaNO47, LaNO48, LaNO49, LaNO50, LaNO51, LaNO52, LaNO53, LaNO54, LaNO55, LaNO56, LaNO57, LaNO58, LaNO59, LaNO60, LaNO61, LaNO62, LaNO131, LaNO130, LaNO65, LaNO109, LaNO110, LaNO132, LaNO81, LaNO70, LaNO71, LaNO112], 89930⟩⟩
theorem LaNT13 [In4] (hn : In4.n = (8 : Nat)) : @Ent.check (envN 8 hn) Tryz.prog (@knownA (envN 8 hn)) [] 990 LaNE13 = true := by kernel_rfl
theorem LaNK13 [In4] (hn : In4.n = (8 : Nat)) : LaNE13.Ok Tryz.prog Keep.none :=
  letI := envN 8 hn
  Ent.ok_of mixed (X := knownA) (knownN_ok 8 hn) Tab.ok_nil (LaNT13 hn)
def LaNE14 : Ent := ⟨65, (.cons (.ptr 69866 0) (.cons (.ptr 69889 0) (.cons (.agg (avs [(nu 2), (nu (-1)), (nu 4), (nu 0), (.sl 65377 0 2 3 true)])) .nil))), ⟨[LaNO0, LaNO1, LaNO2, LaNO3, LaNO4, LaNO5, LaNO6, LaNO7, LaNO8, LaNO9, LaNO10, LaNO11, LaNO12, LaNO13, LaNO14, LaNO15, LaNO16, LaNO17, LaNO18, LaNO19, LaNO20, LaNO21, LaNO22, LaNO23, LaNO24, LaNO25, LaNO26, LaNO27, LaNO28, LaNO29, LaNO30, LaNO31, LaNO32, LaNO33, LaNO34, LaNO35, LaNO36, LaNO37, LaNO38, LaNO39, LaNO40, LaNO41, LaNO42, LaNO43, LaNO44, LaNO45, LaNO46, LaNO47, LaNO48, LaNO49, LaNO50, LaNO51, LaNO52, LaNO53, LaNO54, LaNO55, LaNO56, LaNO57, LaNO58, LaNO59, LaNO60, LaNO61, LaNO62, LaNO133, LaNO134, LaNO65, LaNO109, LaNO110, LaNO132, LaNO76, LaNO70, LaNO71, LaNO112], 90772⟩, (.bool true), ⟨[LaNO0, LaNO1, LaNO2, LaNO3, LaNO4, LaNO5, LaNO6, LaNO7, LaNO8, LaNO9, LaNO10, LaNO11, LaNO12, LaNO13, LaNO14, LaNO15, LaNO16, LaNO17, LaNO18, LaNO19, LaNO20, LaNO21, LaNO22, LaNO23, LaNO24, LaNO25, LaNO26, LaNO27, LaNO28, LaNO29, LaNO30, LaNO31, LaNO32, LaNO33, LaNO34, LaNO35, LaNO36, LaNO37, LaNO38, LaNO39, LaNO40, LaNO41, LaNO42, LaNO43, LaNO44, LaNO45, LaNO46, LaNO47, LaNO48, LaNO49, LaNO50, LaNO51, LaNO52, LaNO53, LaNO54, LaNO55, LaNO56, LaNO57, LaNO58, LaNO59, LaNO60, LaNO61, LaNO62, LaNO135, LaNO134, LaNO65, LaNO109, LaNO110, LaNO136, LaNO76, LaNO70, LaNO71, LaNO112], 91082⟩⟩
theorem LaNT14 [In4] (hn : In4.n = (8 : Nat)) : @Ent.check (envN 8 hn) Tryz.prog (@knownA (envN 8 hn)) [] 990 LaNE14 = true := by kernel_rfl
theorem LaNK14 [In4] (hn : In4.n = (8 : Nat)) : LaNE14.Ok Tryz.prog Keep.none :=
  letI := envN 8 hn
  Ent.ok_of mixed (X := knownA) (knownN_ok 8 hn) Tab.ok_nil (LaNT14 hn)
def LaNE15 : Ent := ⟨65, (.cons (.ptr 69866 0) (.cons (.ptr 69889 0) (.cons (.agg (avs [(nu 2), (nu (-1)), (nu 4), (nu 0), (.sl 65377 0 2 3 true)])) .nil))), ⟨[LaNO0, LaNO1, LaNO2, LaNO3, LaNO4, LaNO5, LaNO6, LaNO7, LaNO8, LaNO9, LaNO10, LaNO11, LaNO12, LaNO13, LaNO14, LaNO15, LaNO16, LaNO17, LaNO18, LaNO19, LaNO20, LaNO21, LaNO22, LaNO23, LaNO24, LaNO25, LaNO26, LaNO27, LaNO28, LaNO29, LaNO30, LaNO31, LaNO32, LaNO33, LaNO34, LaNO35, LaNO36, LaNO37, LaNO38, LaNO39, LaNO40, LaNO41, LaNO42, LaNO43, LaNO44, LaNO45, LaNO46, LaNO47, LaNO48, LaNO49, LaNO50, LaNO51, LaNO52, LaNO53, LaNO54, LaNO55, LaNO56, LaNO57, LaNO58, LaNO59, LaNO60, LaNO61, LaNO62, LaNO137, LaNO138, LaNO65, LaNO109, LaNO110, LaNO136, LaNO69, LaNO70, LaNO71, LaNO112], 91924⟩, (.bool true), ⟨[LaNO0, LaNO1, LaNO2, LaNO3, LaNO4, LaNO5, LaNO6, LaNO7, LaNO8, LaNO9, LaNO10, LaNO11, LaNO12, LaNO13, LaNO14, LaNO15, LaNO16, LaNO17, LaNO18, LaNO19, LaNO20, LaNO21, LaNO22, LaNO23, LaNO24, LaNO25, LaNO26, LaNO27, LaNO28, LaNO29, LaNO30, LaNO31, LaNO32, LaNO33, LaNO34, LaNO35, LaNO36, LaNO37, LaNO38, LaNO39, LaNO40, LaNO41, LaNO42, LaNO43, LaNO44, LaNO45, LaNO46, LaNO47, LaNO48, LaNO49, LaNO50, LaNO51, LaNO52, LaNO53, LaNO54, LaNO55, LaNO56, LaNO57, LaNO58, LaNO59, LaNO60, LaNO61, LaNO62, LaNO139, LaNO138, LaNO65, LaNO109, LaNO110, LaNO140, LaNO69, LaNO70, LaNO71, LaNO112], 92234⟩⟩
theorem LaNT15 [In4] (hn : In4.n = (8 : Nat)) : @Ent.check (envN 8 hn) Tryz.prog (@knownA (envN 8 hn)) [] 990 LaNE15 = true := by kernel_rfl
theorem LaNK15 [In4] (hn : In4.n = (8 : Nat)) : LaNE15.Ok Tryz.prog Keep.none :=
  letI := envN 8 hn
  Ent.ok_of mixed (X := knownA) (knownN_ok 8 hn) Tab.ok_nil (LaNT15 hn)
def LaNE16 : Ent := ⟨65, (.cons (.ptr 69866 0) (.cons (.ptr 69889 0) (.cons (.agg (avs [(nu 2), (nu (-1)), (nu 4), (nu 0), (.sl 65377 0 2 3 true)])) .nil))), ⟨[LaNO0, LaNO1, LaNO2, LaNO3, LaNO4, LaNO5, LaNO6, LaNO7, LaNO8, LaNO9, LaNO10, LaNO11, LaNO12, LaNO13, LaNO14, LaNO15, LaNO16, LaNO17, LaNO18, LaNO19, LaNO20, LaNO21, LaNO22, LaNO23, LaNO24, LaNO25, LaNO26, LaNO27, LaNO28, LaNO29, LaNO30, LaNO31, LaNO32, LaNO33, LaNO34, LaNO35, LaNO36, LaNO37, LaNO38, LaNO39, LaNO40, LaNO41, LaNO42, LaNO43, LaNO44, LaNO45, LaNO46, LaNO47, LaNO48, LaNO49, LaNO50, LaNO51, LaNO52, LaNO53, LaNO54, LaNO55, LaNO56, LaNO57, LaNO58, LaNO59, LaNO60, LaNO61, LaNO62, LaNO141, LaNO142, LaNO65, LaNO109, LaNO110, LaNO140, LaNO143, LaNO70, LaNO71, LaNO112], 93076⟩, (.bool true), ⟨[LaNO0, LaNO1, LaNO2, LaNO3, LaNO4, LaNO5, LaNO6, LaNO7, LaNO8, LaNO9, LaNO10, LaNO11, LaNO12, LaNO13, LaNO14, LaNO15, LaNO16, LaNO17, LaNO18, LaNO19, LaNO20, LaNO21, LaNO22, LaNO23, LaNO24, LaNO25, LaNO26, LaNO27, LaNO28, LaNO29, LaNO30, LaNO31, LaNO32, LaNO33, LaNO34, LaNO35, LaNO36, LaNO37, LaNO38, LaNO39, LaNO40, LaNO41, LaNO42, LaNO43, LaNO44, LaNO45, LaNO46, LaNO47, LaNO48, LaNO49, LaNO50, LaNO51, LaNO52, LaNO53, LaNO54, LaNO55, LaNO56, LaNO57, LaNO58, LaNO59, LaNO60, LaNO61, LaNO62, LaNO144, LaNO142, LaNO65, LaNO109, LaNO110, LaNO145, LaNO143, LaNO70, LaNO71, LaNO112], 93386⟩⟩
theorem LaNT16 [In4] (hn : In4.n = (8 : Nat)) : @Ent.check (envN 8 hn) Tryz.prog (@knownA (envN 8 hn)) [] 990 LaNE16 = true := by kernel_rfl
theorem LaNK16 [In4] (hn : In4.n = (8 : Nat)) : LaNE16.Ok Tryz.prog Keep.none :=
  letI := envN 8 hn
  Ent.ok_of mixed (X := knownA) (knownN_ok 8 hn) Tab.ok_nil (LaNT16 hn)
def LaAll8 : Tab := [(66, [LaNE0, LaNE1, LaNE2, LaNE3, LaNE4, LaNE5, LaNE6, LaNE7]), (65, [LaNE8, LaNE9, LaNE10, LaNE11, LaNE12, LaNE13, LaNE14, LaNE15, LaNE16])] ++ LaAll
theorem La_ok8 [In4] (hn : In4.n = (8 : Nat)) : LaAll8.Ok Tryz.prog Keep.none :=
  letI := envN 8 hn
  (Tab.ok_cons (f := 66) (Ent.ok_cons (LaNK0 hn) (Ent.ok_cons (LaNK1 hn) (Ent.ok_cons (LaNK2 hn) (Ent.ok_cons (LaNK3 hn) (Ent.ok_cons (LaNK4 hn) (Ent.ok_cons (LaNK5 hn) (Ent.ok_cons (LaNK6 hn) (Ent.ok_cons (LaNK7 hn) Ent.ok_nil)))))))) (Tab.ok_cons (f := 65) (Ent.ok_cons (LaNK8 hn) (Ent.ok_cons (LaNK9 hn) (Ent.ok_cons (LaNK10 hn) (Ent.ok_cons (LaNK11 hn) (Ent.ok_cons (LaNK12 hn) (Ent.ok_cons (LaNK13 hn) (Ent.ok_cons (LaNK14 hn) (Ent.ok_cons (LaNK15 hn) (Ent.ok_cons (LaNK16 hn) Ent.ok_nil))))))))) La_ok))
end Go.Proofs.YtdnblmideoknbaaGreat

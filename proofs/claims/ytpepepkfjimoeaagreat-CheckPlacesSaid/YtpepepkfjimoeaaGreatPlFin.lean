/- CheckPlaces, for every slice of texts: the law returns true, and its argument reads as it did; each of its calls of Parse and of Check by the evaluator, in the kernel. -/
import Derived.Test.YtpepepkfjimoeaaGreatP1
import Derived.Test.YtpepepkfjimoeaaGreatPl0
import Derived.Test.YtpepepkfjimoeaaGreatPl1
import Derived.Test.YtpepepkfjimoeaaGreatPl2
import Derived.Test.YtpepepkfjimoeaaGreatPl3
import Derived.Test.YtpepepkfjimoeaaGreatPl4
import Derived.Test.YtpepepkfjimoeaaGreatPl5
import Derived.Test.YtpepepkfjimoeaaGreatPl6
import Derived.Test.YtpepepkfjimoeaaGreatPl7
import Derived.Test.YtpepepkfjimoeaaGreatPl8
import Derived.Test.YtpepepkfjimoeaaGreatPl9
import Derived.Test.YtpepepkfjimoeaaGreatPl10
import Derived.Test.YtpepepkfjimoeaaGreatPl11
import Derived.Test.YtpepepkfjimoeaaGreatPl12
import Derived.Test.YtpepepkfjimoeaaGreatPl13
import Derived.Test.YtpepepkfjimoeaaGreatPl14
import Derived.Test.YtpepepkfjimoeaaGreatPl15
import Derived.Test.YtpepepkfjimoeaaGreatPl16
import Derived.Test.YtpepepkfjimoeaaGreatPl17
import Derived.Test.YtpepepkfjimoeaaGreatPl18
import Derived.Test.YtpepepkfjimoeaaGreatPl19
namespace Go.Proofs.YtpepepkfjimoeaaGreat
open Go.Proofs.YtpepepkfjimoeaaGreat.Ev

def PlAll : List Ent := [PlE0, PlE1, PlE2, PlE3, PlE4, PlE5, PlE6, PlE7, PlE8, PlE9, PlE10, PlE11, PlE12, PlE13, PlE14, PlE15, PlE16, PlE17, PlE18, PlE19, PlE20, PlE21, PlE22, PlE23, PlE24, PlE25, PlE26, PlE27, PlE28, PlE29, PlE30, PlE31, PlE32, PlE33, PlE34, PlE35, PlE36, PlE37, PlE38, PlE39]
theorem Pl_ok : ∀ x ∈ PlAll, x.Ok Tryz.prog := by
  intro x hx
  simp only [PlAll, List.mem_cons, List.not_mem_nil, or_false] at hx
  rcases hx with rfl | rfl | rfl | rfl | rfl | rfl | rfl | rfl | rfl | rfl | rfl | rfl | rfl | rfl | rfl | rfl | rfl | rfl | rfl | rfl | rfl | rfl | rfl | rfl | rfl | rfl | rfl | rfl | rfl | rfl | rfl | rfl | rfl | rfl | rfl | rfl | rfl | rfl | rfl | rfl
  · exact Ent.ok_of Tryz.mixed (T := []) (fun _ h => by cases h) PlT0
  · exact Ent.ok_of Tryz.mixed (T := []) (fun _ h => by cases h) PlT1
  · exact Ent.ok_of Tryz.mixed (T := []) (fun _ h => by cases h) PlT2
  · exact Ent.ok_of Tryz.mixed (T := []) (fun _ h => by cases h) PlT3
  · exact Ent.ok_of Tryz.mixed (T := []) (fun _ h => by cases h) PlT4
  · exact Ent.ok_of Tryz.mixed (T := []) (fun _ h => by cases h) PlT5
  · exact Ent.ok_of Tryz.mixed (T := []) (fun _ h => by cases h) PlT6
  · exact Ent.ok_of Tryz.mixed (T := []) (fun _ h => by cases h) PlT7
  · exact Ent.ok_of Tryz.mixed (T := []) (fun _ h => by cases h) PlT8
  · exact Ent.ok_of Tryz.mixed (T := []) (fun _ h => by cases h) PlT9
  · exact Ent.ok_of Tryz.mixed (T := []) (fun _ h => by cases h) PlT10
  · exact Ent.ok_of Tryz.mixed (T := []) (fun _ h => by cases h) PlT11
  · exact Ent.ok_of Tryz.mixed (T := []) (fun _ h => by cases h) PlT12
  · exact Ent.ok_of Tryz.mixed (T := []) (fun _ h => by cases h) PlT13
  · exact Ent.ok_of Tryz.mixed (T := []) (fun _ h => by cases h) PlT14
  · exact Ent.ok_of Tryz.mixed (T := []) (fun _ h => by cases h) PlT15
  · exact Ent.ok_of Tryz.mixed (T := []) (fun _ h => by cases h) PlT16
  · exact Ent.ok_of Tryz.mixed (T := []) (fun _ h => by cases h) PlT17
  · exact Ent.ok_of Tryz.mixed (T := []) (fun _ h => by cases h) PlT18
  · exact Ent.ok_of Tryz.mixed (T := []) (fun _ h => by cases h) PlT19
  · exact Ent.ok_of Tryz.mixed (T := []) (fun _ h => by cases h) PlT20
  · exact Ent.ok_of Tryz.mixed (T := []) (fun _ h => by cases h) PlT21
  · exact Ent.ok_of Tryz.mixed (T := []) (fun _ h => by cases h) PlT22
  · exact Ent.ok_of Tryz.mixed (T := []) (fun _ h => by cases h) PlT23
  · exact Ent.ok_of Tryz.mixed (T := []) (fun _ h => by cases h) PlT24
  · exact Ent.ok_of Tryz.mixed (T := []) (fun _ h => by cases h) PlT25
  · exact Ent.ok_of Tryz.mixed (T := []) (fun _ h => by cases h) PlT26
  · exact Ent.ok_of Tryz.mixed (T := []) (fun _ h => by cases h) PlT27
  · exact Ent.ok_of Tryz.mixed (T := []) (fun _ h => by cases h) PlT28
  · exact Ent.ok_of Tryz.mixed (T := []) (fun _ h => by cases h) PlT29
  · exact Ent.ok_of Tryz.mixed (T := []) (fun _ h => by cases h) PlT30
  · exact Ent.ok_of Tryz.mixed (T := []) (fun _ h => by cases h) PlT31
  · exact Ent.ok_of Tryz.mixed (T := []) (fun _ h => by cases h) PlT32
  · exact Ent.ok_of Tryz.mixed (T := []) (fun _ h => by cases h) PlT33
  · exact Ent.ok_of Tryz.mixed (T := []) (fun _ h => by cases h) PlT34
  · exact Ent.ok_of Tryz.mixed (T := []) (fun _ h => by cases h) PlT35
  · exact Ent.ok_of Tryz.mixed (T := []) (fun _ h => by cases h) PlT36
  · exact Ent.ok_of Tryz.mixed (T := []) (fun _ h => by cases h) PlT37
  · exact Ent.ok_of Tryz.mixed (T := []) (fun _ h => by cases h) PlT38
  · exact Ent.ok_of Tryz.mixed (T := []) (fun _ h => by cases h) PlT39
set_option maxRecDepth 100000 in
theorem Pl_ev (len : Nat) : okB (callT Tryz.prog PlAll 1000 5 (.cons (.slen len) .nil) ⟨.nil, 0⟩) = true := by kernel_rfl
theorem checkPlaces_holds : Rows.CheckPlacesSaid := checkPlaces_said fun len A c w => closed_law Tryz.mixed Pl_ok (Pl_ev len) A c w
end Go.Proofs.YtpepepkfjimoeaaGreat

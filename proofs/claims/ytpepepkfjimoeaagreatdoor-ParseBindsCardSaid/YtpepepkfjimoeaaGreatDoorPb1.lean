/- Calls that were proved one by one: what the evaluator says. -/
import Derived.Test.YtpepepkfjimoeaaGreatDoorPbO
import Derived.Test.YtpepepkfjimoeaaGreatDoorProg
import Derived.ProofKit
import Derived.Test.YtpepepkfjimoeaaGreatDoorVy
import Derived.Test.YtpepepkfjimoeaaGreatDoorPb0
namespace Go.Proofs.YtpepepkfjimoeaaGreatDoor
open Go.Proofs.YtpepepkfjimoeaaGreatDoor.Ev
set_option maxRecDepth 100000

def PbE35 : Ent := ⟨161, (.cons (.ptr 9601 0) (.cons (nu 3) (.cons (nu 6) .nil))), ⟨[PbO47, PbO53], 11204⟩, (.agg (avs [(nu 2), (nu 0), (nu 0), (nu 0), (.str 1 99), (nu 0), .nils, (nu 18)])), ⟨[PbO47, PbO54], 11482⟩⟩
theorem PbT35 : Ent.check Tryz.prog known [] 990 PbE35 = true := by kernel_rfl
theorem PbK35 {W : World} (hW : LibW W) : PbE35.Ok Tryz.prog (KG W) := Ent.ok_of mixed (known_ok hW) Tab.ok_nil PbT35
def PbE36 : Ent := ⟨161, (.cons (.ptr 9601 0) (.cons (nu 3) (.cons (nu 5) .nil))), ⟨[PbO47, PbO51], 9995⟩, (.agg (avs [(nu 26), (nu 0), (nu 0), (nu 0), (.str 0 0), (nu 0), (.sl 11201 0 2 8 true), (nu 16)])), ⟨[PbO47, PbO54, PbO50, PbO55], 11513⟩⟩
theorem PbT36 : Ent.check Tryz.prog known [(161, [PbE34, PbE35])] 990 PbE36 = true := by kernel_rfl
theorem PbK36 {W : World} (hW : LibW W) : PbE36.Ok Tryz.prog (KG W) := Ent.ok_of mixed (known_ok hW) (Tab.ok_cons (f := 161) (Ent.ok_cons (PbK34 hW) (Ent.ok_cons (PbK35 hW) Ent.ok_nil)) Tab.ok_nil) PbT36
def PbE37 : Ent := ⟨161, (.cons (.ptr 9601 0) (.cons (nu 3) (.cons (nu 0) .nil))), ⟨[PbO47, PbO51], 9990⟩, (.agg (avs [(nu 26), (nu 0), (nu 0), (nu 0), (.str 0 0), (nu 0), (.sl 11201 0 2 8 true), (nu 16)])), ⟨[PbO47, PbO54, PbO50, PbO55], 11673⟩⟩
theorem PbT37 : Ent.check Tryz.prog known [(161, [PbE36])] 990 PbE37 = true := by kernel_rfl
theorem PbK37 {W : World} (hW : LibW W) : PbE37.Ok Tryz.prog (KG W) := Ent.ok_of mixed (known_ok hW) (Tab.ok_cons (f := 161) (Ent.ok_cons (PbK36 hW) Ent.ok_nil) Tab.ok_nil) PbT37
def PbE38 : Ent := ⟨18, (.cons (.ptr 9601 0) (.cons (.ptr 9602 0) .nil)), ⟨[PbO47, PbO56, PbO57], 9615⟩, (.tup (avs [])), ⟨[PbO47, PbO58, PbO59, PbO50, PbO55, PbO60, PbO61, PbO62], 11797⟩⟩
theorem PbT38 : Ent.check Tryz.prog known [(161, [PbE37])] 990 PbE38 = true := by kernel_rfl
theorem PbK38 {W : World} (hW : LibW W) : PbE38.Ok Tryz.prog (KG W) := Ent.ok_of mixed (known_ok hW) (Tab.ok_cons (f := 161) (Ent.ok_cons (PbK37 hW) Ent.ok_nil) Tab.ok_nil) PbT38
def PbE39 : Ent := ⟨15, (.cons (.str 20 PbS6) .nil), ⟨[], 11997⟩, (.tup (avs [(.sl 12109 0 15 4 false), (.agg (avs [(nu 0), (nu 0)]))])), ⟨[PbO63], 12110⟩⟩
theorem PbT39 : Ent.check Tryz.prog known [] 990 PbE39 = true := by kernel_rfl
theorem PbK39 {W : World} (hW : LibW W) : PbE39.Ok Tryz.prog (KG W) := Ent.ok_of mixed (known_ok hW) Tab.ok_nil PbT39
def PbE40 : Ent := ⟨161, (.cons (.ptr 12111 0) (.cons (nu 3) (.cons (nu 6) .nil))), ⟨[PbO63, PbO64], 12506⟩, (.agg (avs [(nu 2), (nu 0), (nu 0), (nu 0), (.str 1 97), (nu 0), .nils, (nu 11)])), ⟨[PbO63, PbO65], 12788⟩⟩
theorem PbT40 : Ent.check Tryz.prog known [] 990 PbE40 = true := by kernel_rfl
theorem PbK40 {W : World} (hW : LibW W) : PbE40.Ok Tryz.prog (KG W) := Ent.ok_of mixed (known_ok hW) Tab.ok_nil PbT40
def PbE41 : Ent := ⟨161, (.cons (.ptr 12111 0) (.cons (nu 3) (.cons (nu 7) .nil))), ⟨[PbO63, PbO66], 12881⟩, (.agg (avs [(nu 2), (nu 0), (nu 0), (nu 0), (.str 1 98), (nu 0), .nils, (nu 13)])), ⟨[PbO63, PbO67], 13129⟩⟩
theorem PbT41 : Ent.check Tryz.prog known [] 990 PbE41 = true := by kernel_rfl
theorem PbK41 {W : World} (hW : LibW W) : PbE41.Ok Tryz.prog (KG W) := Ent.ok_of mixed (known_ok hW) Tab.ok_nil PbT41
def PbE42 : Ent := ⟨161, (.cons (.ptr 12111 0) (.cons (nu 3) (.cons (nu 4) .nil))), ⟨[PbO63, PbO64], 12504⟩, (.agg (avs [(nu 28), (nu 0), (nu 0), (nu 0), (.str 0 0), (nu 0), (.sl 12876 0 2 8 true), (nu 12)])), ⟨[PbO63, PbO67, PbO68], 13227⟩⟩
theorem PbT42 : Ent.check Tryz.prog known [(161, [PbE40, PbE41])] 990 PbE42 = true := by kernel_rfl
theorem PbK42 {W : World} (hW : LibW W) : PbE42.Ok Tryz.prog (KG W) := Ent.ok_of mixed (known_ok hW) (Tab.ok_cons (f := 161) (Ent.ok_cons (PbK40 hW) (Ent.ok_cons (PbK41 hW) Ent.ok_nil)) Tab.ok_nil) PbT42
def PbE43 : Ent := ⟨161, (.cons (.ptr 12111 0) (.cons (nu 3) (.cons (nu 6) .nil))), ⟨[PbO63, PbO69], 13321⟩, (.agg (avs [(nu 2), (nu 0), (nu 0), (nu 0), (.str 1 99), (nu 0), .nils, (nu 15)])), ⟨[PbO63, PbO70], 13603⟩⟩
theorem PbT43 : Ent.check Tryz.prog known [] 990 PbE43 = true := by kernel_rfl
theorem PbK43 {W : World} (hW : LibW W) : PbE43.Ok Tryz.prog (KG W) := Ent.ok_of mixed (known_ok hW) Tab.ok_nil PbT43
def PbE44 : Ent := ⟨161, (.cons (.ptr 12111 0) (.cons (nu 3) (.cons (nu 6) .nil))), ⟨[PbO63, PbO71], 13729⟩, (.agg (avs [(nu 2), (nu 0), (nu 0), (nu 0), (.str 1 100), (nu 0), .nils, (nu 17)])), ⟨[PbO63, PbO72], 14007⟩⟩
theorem PbT44 : Ent.check Tryz.prog known [] 990 PbE44 = true := by kernel_rfl
theorem PbK44 {W : World} (hW : LibW W) : PbE44.Ok Tryz.prog (KG W) := Ent.ok_of mixed (known_ok hW) Tab.ok_nil PbT44
def PbE45 : Ent := ⟨161, (.cons (.ptr 12111 0) (.cons (nu 3) (.cons (nu 3) .nil))), ⟨[PbO63, PbO69], 13318⟩, (.agg (avs [(nu 29), (nu 0), (nu 0), (nu 0), (.str 0 0), (nu 0), (.sl 13724 0 2 8 true), (nu 16)])), ⟨[PbO63, PbO72, PbO73], 14102⟩⟩
theorem PbT45 : Ent.check Tryz.prog known [(161, [PbE43, PbE44])] 990 PbE45 = true := by kernel_rfl
theorem PbK45 {W : World} (hW : LibW W) : PbE45.Ok Tryz.prog (KG W) := Ent.ok_of mixed (known_ok hW) (Tab.ok_cons (f := 161) (Ent.ok_cons (PbK43 hW) (Ent.ok_cons (PbK44 hW) Ent.ok_nil)) Tab.ok_nil) PbT45
def PbE46 : Ent := ⟨161, (.cons (.ptr 12111 0) (.cons (nu 3) (.cons (nu 0) .nil))), ⟨[PbO63, PbO64], 12500⟩, (.agg (avs [(nu 30), (nu 0), (nu 0), (nu 0), (.str 0 0), (nu 0), (.sl 13315 0 2 8 true), (nu 14)])), ⟨[PbO63, PbO72, PbO68, PbO74, PbO73], 14197⟩⟩
theorem PbT46 : Ent.check Tryz.prog known [(161, [PbE42, PbE45])] 990 PbE46 = true := by kernel_rfl
theorem PbK46 {W : World} (hW : LibW W) : PbE46.Ok Tryz.prog (KG W) := Ent.ok_of mixed (known_ok hW) (Tab.ok_cons (f := 161) (Ent.ok_cons (PbK42 hW) (Ent.ok_cons (PbK45 hW) Ent.ok_nil)) Tab.ok_nil) PbT46
def PbE47 : Ent := ⟨18, (.cons (.ptr 12111 0) (.cons (.ptr 12112 0) .nil)), ⟨[PbO63, PbO75, PbO76], 12125⟩, (.tup (avs [])), ⟨[PbO63, PbO77, PbO78, PbO68, PbO74, PbO73, PbO79, PbO80, PbO81], 14321⟩⟩
theorem PbT47 : Ent.check Tryz.prog known [(161, [PbE46])] 990 PbE47 = true := by kernel_rfl
theorem PbK47 {W : World} (hW : LibW W) : PbE47.Ok Tryz.prog (KG W) := Ent.ok_of mixed (known_ok hW) (Tab.ok_cons (f := 161) (Ent.ok_cons (PbK46 hW) Ent.ok_nil) Tab.ok_nil) PbT47
def PbE48 : Ent := ⟨15, (.cons (.str 24 PbS7) .nil), ⟨[], 14337⟩, (.tup (avs [(.sl 14465 0 19 4 false), (.agg (avs [(nu 0), (nu 0)]))])), ⟨[PbO82], 14466⟩⟩
theorem PbT48 : Ent.check Tryz.prog known [] 990 PbE48 = true := by kernel_rfl
theorem PbK48 {W : World} (hW : LibW W) : PbE48.Ok Tryz.prog (KG W) := Ent.ok_of mixed (known_ok hW) Tab.ok_nil PbT48
def PbE49 : Ent := ⟨161, (.cons (.ptr 14467 0) (.cons (nu 4) (.cons (nu 6) .nil))), ⟨[PbO82, PbO83], 14981⟩, (.agg (avs [(nu 2), (nu 0), (nu 0), (nu 0), (.str 1 97), (nu 0), .nils, (nu 12)])), ⟨[PbO82, PbO84], 15263⟩⟩
theorem PbT49 : Ent.check Tryz.prog known [] 990 PbE49 = true := by kernel_rfl
theorem PbK49 {W : World} (hW : LibW W) : PbE49.Ok Tryz.prog (KG W) := Ent.ok_of mixed (known_ok hW) Tab.ok_nil PbT49
def PbE50 : Ent := ⟨161, (.cons (.ptr 14467 0) (.cons (nu 4) (.cons (nu 6) .nil))), ⟨[PbO82, PbO85], 15355⟩, (.agg (avs [(nu 2), (nu 0), (nu 0), (nu 0), (.str 1 98), (nu 0), .nils, (nu 14)])), ⟨[PbO82, PbO86], 15633⟩⟩
theorem PbT50 : Ent.check Tryz.prog known [] 990 PbE50 = true := by kernel_rfl
theorem PbK50 {W : World} (hW : LibW W) : PbE50.Ok Tryz.prog (KG W) := Ent.ok_of mixed (known_ok hW) Tab.ok_nil PbT50
def PbE51 : Ent := ⟨161, (.cons (.ptr 14467 0) (.cons (nu 4) (.cons (nu 3) .nil))), ⟨[PbO82, PbO83], 14978⟩, (.agg (avs [(nu 28), (nu 0), (nu 0), (nu 0), (.str 0 0), (nu 0), (.sl 15351 0 2 8 true), (nu 13)])), ⟨[PbO82, PbO86, PbO87], 15728⟩⟩
theorem PbT51 : Ent.check Tryz.prog known [(161, [PbE49, PbE50])] 990 PbE51 = true := by kernel_rfl
theorem PbK51 {W : World} (hW : LibW W) : PbE51.Ok Tryz.prog (KG W) := Ent.ok_of mixed (known_ok hW) (Tab.ok_cons (f := 161) (Ent.ok_cons (PbK49 hW) (Ent.ok_cons (PbK50 hW) Ent.ok_nil)) Tab.ok_nil) PbT51
def PbE52 : Ent := ⟨119, (.cons (.ptr 14467 0) (.cons (nu 4) .nil)), ⟨[PbO82, PbO83], 14973⟩, (.agg (avs [(nu 28), (nu 0), (nu 0), (nu 0), (.str 0 0), (nu 0), (.sl 15351 0 2 8 true), (nu 13)])), ⟨[PbO82, PbO86, PbO87], 15866⟩⟩
theorem PbT52 : Ent.check Tryz.prog known [(161, [PbE51])] 990 PbE52 = true := by kernel_rfl
theorem PbK52 {W : World} (hW : LibW W) : PbE52.Ok Tryz.prog (KG W) := Ent.ok_of mixed (known_ok hW) (Tab.ok_cons (f := 161) (Ent.ok_cons (PbK51 hW) Ent.ok_nil) Tab.ok_nil) PbT52
def PbE53 : Ent := ⟨161, (.cons (.ptr 14467 0) (.cons (nu 3) (.cons (nu 7) .nil))), ⟨[PbO82, PbO88], 14863⟩, (.agg (avs [(nu 28), (nu 0), (nu 0), (nu 0), (.str 0 0), (nu 0), (.sl 15351 0 2 8 true), (nu 13)])), ⟨[PbO82, PbO89, PbO87], 16047⟩⟩
theorem PbT53 : Ent.check Tryz.prog known [(119, [PbE52])] 990 PbE53 = true := by kernel_rfl
theorem PbK53 {W : World} (hW : LibW W) : PbE53.Ok Tryz.prog (KG W) := Ent.ok_of mixed (known_ok hW) (Tab.ok_cons (f := 119) (Ent.ok_cons (PbK52 hW) Ent.ok_nil) Tab.ok_nil) PbT53
def PbE54 : Ent := ⟨161, (.cons (.ptr 14467 0) (.cons (nu 4) (.cons (nu 6) .nil))), ⟨[PbO82, PbO90], 16359⟩, (.agg (avs [(nu 2), (nu 0), (nu 0), (nu 0), (.str 1 99), (nu 0), .nils, (nu 18)])), ⟨[PbO82, PbO91], 16641⟩⟩
theorem PbT54 : Ent.check Tryz.prog known [] 990 PbE54 = true := by kernel_rfl
theorem PbK54 {W : World} (hW : LibW W) : PbE54.Ok Tryz.prog (KG W) := Ent.ok_of mixed (known_ok hW) Tab.ok_nil PbT54
def PbE55 : Ent := ⟨161, (.cons (.ptr 14467 0) (.cons (nu 4) (.cons (nu 6) .nil))), ⟨[PbO82, PbO92], 16767⟩, (.agg (avs [(nu 2), (nu 0), (nu 0), (nu 0), (.str 1 100), (nu 0), .nils, (nu 20)])), ⟨[PbO82, PbO93], 17045⟩⟩
theorem PbT55 : Ent.check Tryz.prog known [] 990 PbE55 = true := by kernel_rfl
theorem PbK55 {W : World} (hW : LibW W) : PbE55.Ok Tryz.prog (KG W) := Ent.ok_of mixed (known_ok hW) Tab.ok_nil PbT55
def PbE56 : Ent := ⟨161, (.cons (.ptr 14467 0) (.cons (nu 4) (.cons (nu 3) .nil))), ⟨[PbO82, PbO90], 16356⟩, (.agg (avs [(nu 29), (nu 0), (nu 0), (nu 0), (.str 0 0), (nu 0), (.sl 16762 0 2 8 true), (nu 19)])), ⟨[PbO82, PbO93, PbO94], 17140⟩⟩
theorem PbT56 : Ent.check Tryz.prog known [(161, [PbE54, PbE55])] 990 PbE56 = true := by kernel_rfl
theorem PbK56 {W : World} (hW : LibW W) : PbE56.Ok Tryz.prog (KG W) := Ent.ok_of mixed (known_ok hW) (Tab.ok_cons (f := 161) (Ent.ok_cons (PbK54 hW) (Ent.ok_cons (PbK55 hW) Ent.ok_nil)) Tab.ok_nil) PbT56
def PbE57 : Ent := ⟨119, (.cons (.ptr 14467 0) (.cons (nu 4) .nil)), ⟨[PbO82, PbO90], 16351⟩, (.agg (avs [(nu 29), (nu 0), (nu 0), (nu 0), (.str 0 0), (nu 0), (.sl 16762 0 2 8 true), (nu 19)])), ⟨[PbO82, PbO93, PbO94], 17278⟩⟩
theorem PbT57 : Ent.check Tryz.prog known [(161, [PbE56])] 990 PbE57 = true := by kernel_rfl
theorem PbK57 {W : World} (hW : LibW W) : PbE57.Ok Tryz.prog (KG W) := Ent.ok_of mixed (known_ok hW) (Tab.ok_cons (f := 161) (Ent.ok_cons (PbK56 hW) Ent.ok_nil) Tab.ok_nil) PbT57
def PbE58 : Ent := ⟨161, (.cons (.ptr 14467 0) (.cons (nu 3) (.cons (nu 7) .nil))), ⟨[PbO82, PbO95], 16241⟩, (.agg (avs [(nu 29), (nu 0), (nu 0), (nu 0), (.str 0 0), (nu 0), (.sl 16762 0 2 8 true), (nu 19)])), ⟨[PbO82, PbO96, PbO94], 17456⟩⟩
theorem PbT58 : Ent.check Tryz.prog known [(119, [PbE57])] 990 PbE58 = true := by kernel_rfl
theorem PbK58 {W : World} (hW : LibW W) : PbE58.Ok Tryz.prog (KG W) := Ent.ok_of mixed (known_ok hW) (Tab.ok_cons (f := 119) (Ent.ok_cons (PbK57 hW) Ent.ok_nil) Tab.ok_nil) PbT58
def PbE59 : Ent := ⟨161, (.cons (.ptr 14467 0) (.cons (nu 3) (.cons (nu 2) .nil))), ⟨[PbO82, PbO88], 14858⟩, (.agg (avs [(nu 30), (nu 0), (nu 0), (nu 0), (.str 0 0), (nu 0), (.sl 16234 0 2 8 true), (nu 16)])), ⟨[PbO82, PbO96, PbO87, PbO97, PbO94], 17615⟩⟩
theorem PbT59 : Ent.check Tryz.prog known [(161, [PbE53, PbE58])] 990 PbE59 = true := by kernel_rfl
theorem PbK59 {W : World} (hW : LibW W) : PbE59.Ok Tryz.prog (KG W) := Ent.ok_of mixed (known_ok hW) (Tab.ok_cons (f := 161) (Ent.ok_cons (PbK53 hW) (Ent.ok_cons (PbK58 hW) Ent.ok_nil)) Tab.ok_nil) PbT59
def PbE60 : Ent := ⟨50, (.cons (.ptr 14467 0) (.cons (nu 1) .nil)), ⟨[PbO82, PbO98], 14727⟩, (.sl 17750 0 1 9 false), ⟨[PbO82, PbO99, PbO87, PbO97, PbO94, PbO100, PbO101], 17791⟩⟩
theorem PbT60 : Ent.check Tryz.prog known [(161, [PbE59])] 990 PbE60 = true := by kernel_rfl
theorem PbK60 {W : World} (hW : LibW W) : PbE60.Ok Tryz.prog (KG W) := Ent.ok_of mixed (known_ok hW) (Tab.ok_cons (f := 161) (Ent.ok_cons (PbK59 hW) Ent.ok_nil) Tab.ok_nil) PbT60
def PbE61 : Ent := ⟨15, (.cons (.str 20 PbS8) .nil), ⟨[], 18047⟩, (.tup (avs [(.sl 18142 0 13 4 false), (.agg (avs [(nu 0), (nu 0)]))])), ⟨[PbO102], 18143⟩⟩
theorem PbT61 : Ent.check Tryz.prog known [] 990 PbE61 = true := by kernel_rfl
theorem PbK61 {W : World} (hW : LibW W) : PbE61.Ok Tryz.prog (KG W) := Ent.ok_of mixed (known_ok hW) Tab.ok_nil PbT61
def PbE62 : Ent := ⟨161, (.cons (.ptr 18144 0) (.cons (nu 3) (.cons (nu 7) .nil))), ⟨[PbO102, PbO103], 18540⟩, (.agg (avs [(nu 2), (nu 0), (nu 0), (nu 0), (.str 1 97), (nu 0), .nils, (nu 11)])), ⟨[PbO102, PbO104], 18788⟩⟩
theorem PbT62 : Ent.check Tryz.prog known [] 990 PbE62 = true := by kernel_rfl
theorem PbK62 {W : World} (hW : LibW W) : PbE62.Ok Tryz.prog (KG W) := Ent.ok_of mixed (known_ok hW) Tab.ok_nil PbT62
def PbE63 : Ent := ⟨161, (.cons (.ptr 18144 0) (.cons (nu 3) (.cons (nu 2) .nil))), ⟨[PbO102, PbO103], 18535⟩, (.agg (avs [(nu 2), (nu 0), (nu 0), (nu 0), (.str 1 97), (nu 0), .nils, (nu 11)])), ⟨[PbO102, PbO104], 18953⟩⟩
theorem PbT63 : Ent.check Tryz.prog known [(161, [PbE62])] 990 PbE63 = true := by kernel_rfl
theorem PbK63 {W : World} (hW : LibW W) : PbE63.Ok Tryz.prog (KG W) := Ent.ok_of mixed (known_ok hW) (Tab.ok_cons (f := 161) (Ent.ok_cons (PbK62 hW) Ent.ok_nil) Tab.ok_nil) PbT63
def PbE64 : Ent := ⟨161, (.cons (.ptr 18144 0) (.cons (nu 3) (.cons (nu 7) .nil))), ⟨[PbO102, PbO105], 19016⟩, (.agg (avs [(nu 2), (nu 0), (nu 0), (nu 0), (.str 1 98), (nu 0), .nils, (nu 14)])), ⟨[PbO102, PbO106], 19264⟩⟩
theorem PbT64 : Ent.check Tryz.prog known [] 990 PbE64 = true := by kernel_rfl
theorem PbK64 {W : World} (hW : LibW W) : PbE64.Ok Tryz.prog (KG W) := Ent.ok_of mixed (known_ok hW) Tab.ok_nil PbT64
def PbE65 : Ent := ⟨161, (.cons (.ptr 18144 0) (.cons (nu 3) (.cons (nu 3) .nil))), ⟨[PbO102, PbO105], 19012⟩, (.agg (avs [(nu 2), (nu 0), (nu 0), (nu 0), (.str 1 98), (nu 0), .nils, (nu 14)])), ⟨[PbO102, PbO106], 19396⟩⟩
theorem PbT65 : Ent.check Tryz.prog known [(161, [PbE64])] 990 PbE65 = true := by kernel_rfl
theorem PbK65 {W : World} (hW : LibW W) : PbE65.Ok Tryz.prog (KG W) := Ent.ok_of mixed (known_ok hW) (Tab.ok_cons (f := 161) (Ent.ok_cons (PbK64 hW) Ent.ok_nil) Tab.ok_nil) PbT65
def PbE66 : Ent := ⟨161, (.cons (.ptr 18144 0) (.cons (nu 3) (.cons (nu 6) .nil))), ⟨[PbO102, PbO107], 19524⟩, (.agg (avs [(nu 2), (nu 0), (nu 0), (nu 0), (.str 1 99), (nu 0), .nils, (nu 17)])), ⟨[PbO102, PbO108], 19802⟩⟩
theorem PbT66 : Ent.check Tryz.prog known [] 990 PbE66 = true := by kernel_rfl
theorem PbK66 {W : World} (hW : LibW W) : PbE66.Ok Tryz.prog (KG W) := Ent.ok_of mixed (known_ok hW) Tab.ok_nil PbT66
def PbE67 : Ent := ⟨161, (.cons (.ptr 18144 0) (.cons (nu 3) (.cons (nu 1) .nil))), ⟨[PbO102, PbO107], 19519⟩, (.agg (avs [(nu 2), (nu 0), (nu 0), (nu 0), (.str 1 99), (nu 0), .nils, (nu 17)])), ⟨[PbO102, PbO108], 19962⟩⟩
theorem PbT67 : Ent.check Tryz.prog known [(161, [PbE66])] 990 PbE67 = true := by kernel_rfl
theorem PbK67 {W : World} (hW : LibW W) : PbE67.Ok Tryz.prog (KG W) := Ent.ok_of mixed (known_ok hW) (Tab.ok_cons (f := 161) (Ent.ok_cons (PbK66 hW) Ent.ok_nil) Tab.ok_nil) PbT67
def PbE68 : Ent := ⟨161, (.cons (.ptr 18144 0) (.cons (nu 3) (.cons (nu 0) .nil))), ⟨[PbO102, PbO103], 18533⟩, (.agg (avs [(nu 32), (nu 0), (nu 0), (nu 0), (.str 0 0), (nu 0), (.sl 19516 0 2 8 true), (nu 15)])), ⟨[PbO102, PbO108, PbO109, PbO110], 19993⟩⟩
theorem PbT68 : Ent.check Tryz.prog known [(161, [PbE63, PbE65, PbE67])] 990 PbE68 = true := by kernel_rfl
theorem PbK68 {W : World} (hW : LibW W) : PbE68.Ok Tryz.prog (KG W) := Ent.ok_of mixed (known_ok hW) (Tab.ok_cons (f := 161) (Ent.ok_cons (PbK63 hW) (Ent.ok_cons (PbK65 hW) (Ent.ok_cons (PbK67 hW) Ent.ok_nil))) Tab.ok_nil) PbT68
def PbE69 : Ent := ⟨18, (.cons (.ptr 18144 0) (.cons (.ptr 18145 0) .nil)), ⟨[PbO102, PbO111, PbO112], 18158⟩, (.tup (avs [])), ⟨[PbO102, PbO113, PbO114, PbO109, PbO110, PbO115, PbO116, PbO117], 20117⟩⟩
theorem PbT69 : Ent.check Tryz.prog known [(161, [PbE68])] 990 PbE69 = true := by kernel_rfl
theorem PbK69 {W : World} (hW : LibW W) : PbE69.Ok Tryz.prog (KG W) := Ent.ok_of mixed (known_ok hW) (Tab.ok_cons (f := 161) (Ent.ok_cons (PbK68 hW) Ent.ok_nil) Tab.ok_nil) PbT69
def PbE70 : Ent := ⟨15, (.cons (.str 22 PbS9) .nil), ⟨[], 20133⟩, (.tup (avs [(.sl 20236 0 15 4 false), (.agg (avs [(nu 0), (nu 0)]))])), ⟨[PbO118], 20237⟩⟩
theorem PbT70 : Ent.check Tryz.prog known [] 990 PbE70 = true := by kernel_rfl
theorem PbK70 {W : World} (hW : LibW W) : PbE70.Ok Tryz.prog (KG W) := Ent.ok_of mixed (known_ok hW) Tab.ok_nil PbT70
def PbE71 : Ent := ⟨161, (.cons (.ptr 20238 0) (.cons (nu 4) (.cons (nu 7) .nil))), ⟨[PbO118, PbO119], 20753⟩, (.agg (avs [(nu 2), (nu 0), (nu 0), (nu 0), (.str 1 97), (nu 0), .nils, (nu 12)])), ⟨[PbO118, PbO120], 21001⟩⟩
theorem PbT71 : Ent.check Tryz.prog known [] 990 PbE71 = true := by kernel_rfl
theorem PbK71 {W : World} (hW : LibW W) : PbE71.Ok Tryz.prog (KG W) := Ent.ok_of mixed (known_ok hW) Tab.ok_nil PbT71
end Go.Proofs.YtpepepkfjimoeaaGreatDoor

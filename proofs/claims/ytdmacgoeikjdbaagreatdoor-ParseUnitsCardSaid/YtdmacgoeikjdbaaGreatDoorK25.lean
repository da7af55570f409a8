/- The reference's parser: statements (symbolic execution). Printed by wi -/
import Derived.Test.YtdmacgoeikjdbaaGreatDoorK24
set_option linter.unusedSimpArgs false
set_option linter.unusedVariables false
set_option maxHeartbeats 16000000
namespace Go.Proofs.YtdmacgoeikjdbaaGreatDoor
open Go.RowKit Sx
theorem rok_fail2 {s:RS} (h:rok s=true):rok (rfail 2 s)=false:=by
 unfold rfail rfailAt
 rw [if_pos h]
 rfl
theorem wf_two {ts:List Tok} (h:Wf ts) (hk:(hdT ts).kind=1):1<ts.length:=by
 rcases ts with _ | ⟨t,_ | ⟨u,l⟩⟩
 ·exact h.elim
 ·have h:t.kind=0:=h
  have hk:t.kind=1:=hk
  omega
 ·simp
def cfStmt:Cfg:=⟨[(40,sOne),(45,sUnit),(47,sOne),(41,sOne),(46,sSts),(89,sOne),(38,sTy),(39,sName),(48,sOne),(90,sEx),(50,sUnit),(91,sExs),(74,sSt),(92,sEx),(49,sOne),(43,sTok)],[(100 * 100 + 6,8),(100 * 89 + 1,8),(100 * 89 + 2,9),(100 * 56 + 4,1),(100 * 60 + 4,6),(100 * 60 + 5,9),(100 * 60 + 6,6)],[],sSt,[],[]⟩
def Z41:Tree:=tN 0 <| tF 0 35 <| tL 36 1 <| tX 4 37 1 <| tF 0 38 <| tL 39 1 <| tQ 40 3 <| .ite 41 (tN 0 <| tF 0 42 <| tL 43 1 <| tX 4 44 1 <| tF 1 45 <| tL 46 1 <| .nd (.pv (.bin .eql) [.v 47,.c (.string ⟨#[58]⟩)]) <| .ite 48 (tO 15 <| tO 15 <| .ret [jI 15,jN,jN,jI 0,jI 0,jI 0,.v 17,jI 0,.v 11] [jP 8,jP 9]) (tA 1 1 <| tV 9 49 <| tB 8 1 [rX 50 0] <| tS 10 [59] <| tR 1 (.v 58) jN (.v 11) (.dat 1) (.nil 9))) (tA 1 1 <| tV 9 42 <| tB 8 1 [rX 43 0] <| tS 10 [59] <| tR 1 (.v 51) jN (.v 11) (.dat 1) (.nil 9))
def Z40:Tree:=tQ 16 1 <| .ite 34 Z41 (tA 1 1 <| tV 9 35 <| tB 8 1 [rX 36 0] <| tS 10 [59] <| tR 1 (.v 44) jN (.v 11) (.dat 1) (.nil 9))
def Z39:Tree:=tS 2 [103,111,116,111] <| .ite 33 (tO 7 <| tS 10 [59] <| .ret [jI 14,jN,jN,jI 0,jI 0,jI 0,.v 34,jI 0,.v 11] [jP 8,jP 9]) Z40
def Z38:Tree:=tS 2 [114,101,116,117,114,110] <| .ite 32 (tS 2 [59] <| tT 33 <| .ite 34 (tA 1 1 <| tV 9 35 <| tB 8 1 [rX 36 0] <| tS 10 [59] <| tR 13 (.v 44) jN (.v 11) (.dat 1) (.nil 9)) (tR 13 jN jN (.v 11) (.nil 8) (.nil 9))) Z39
def Z37:Tree:=tS 2 [99,111,110,116,105,110,117,101] <| .ite 31 (tS 10 [59] <| tR 12 jN jN (.v 11) (.nil 8) (.nil 9)) Z38
def Z36:Tree:=tS 2 [98,114,101,97,107] <| .ite 30 (tS 10 [59] <| tR 11 jN jN (.v 11) (.nil 8) (.nil 9)) Z37
def Z35:Tree:=tS 2 [100,101,102,97,117,108,116] <| .ite 29 (tS 10 [58] <| tR 10 jN jN (.v 11) (.nil 8) (.nil 9)) Z36
def Z34:Tree:=tS 2 [99,97,115,101] <| .ite 28 (tO 14 <| tS 10 [58] <| .ret [jI 9,jN,jN,jI 0,jI 0,jI 0,jE,.v 29,.v 11] [jP 8,jP 9]) Z35
def Z33:Tree:=tS 2 [102,111,114] <| .ite 27 (tS 10 [40] <| tA 1 1 <| .nd (.call 13 [.one (.v 0),.one (.v 28),.one (.c (.string ⟨#[59]⟩))] []) <| tW <| tA 1 1 <| .nd (.call 13 [.one (.v 0),.one (.v 37),.one (.c (.string ⟨#[59]⟩))] []) <| tW <| tA 1 1 <| .nd (.call 13 [.one (.v 0),.one (.v 46),.one (.c (.string ⟨#[41]⟩))] []) <| tW <| tB 8 3 [rX 29 0,rX 38 1,rX 47 2] <| tA 1 1 <| tV 12 56 <| tB 9 1 [rS 57 4 5] <| tR 7 (.v 55) (.v 66) (.v 11) (.dat 3) (.dat 6)) Z34
def Z32:Tree:=tS 2 [100,111] <| .ite 26 (tA 1 1 <| tV 12 27 <| tB 9 1 [rS 28 0 1] <| tS 10 [119,104,105,108,101] <| tA 1 1 <| tV 11 38 <| tS 10 [59] <| tR 6 (.v 39) (.v 37) (.v 11) (.dat 3) (.dat 2)) Z33
def Z31:Tree:=tS 2 [115,119,105,116,99,104] <| .ite 25 (tA 1 1 <| tV 11 26 <| tA 1 1 <| tV 12 28 <| tB 9 1 [rS 29 1 2] <| tR 8 (.v 27) (.v 38) (.v 11) (.dat 0) (.dat 3)) Z32
def Z30:Tree:=tS 2 [119,104,105,108,101] <| .ite 24 (tA 1 1 <| tV 11 25 <| tA 1 1 <| tV 12 27 <| tB 9 1 [rS 28 1 2] <| tR 5 (.v 26) (.v 37) (.v 11) (.dat 0) (.dat 3)) Z31
def Z29:Tree:=tS 2 [105,102] <| .ite 23 (tA 1 1 <| tV 11 24 <| tA 1 1 <| tV 12 26 <| tB 9 1 [rS 27 1 2] <| tS 2 [101,108,115,101] <| .ite 37 (tA 1 1 <| tV 12 38 <| tB 9 1 [rS 39 4 5] <| tU 9 3 6 <| tR 4 (.v 25) (.v 49) (.v 11) (.dat 0) (.dat 7)) (tR 4 (.v 25) (.v 36) (.v 11) (.dat 0) (.dat 3))) Z30
def Z28:Tree:=tI 5 0 <| .ite 22 (tO 6 <| tO 7 <| tS 2 [91] <| .ite 28 (tO 8 <| tS 10 [59] <| .ret [jI 2,jN,jN,.v 23,.v 24,.v 29,.v 26,jI 0,.v 11] [jP 8,jP 9]) (tS 2 [61] <| .ite 29 (tA 1 1 <| tV 9 30 <| tB 8 1 [rX 31 0] <| tS 10 [59] <| .ret [jI 2,.v 39,jN,.v 23,.v 24,.v 25,.v 26,jI 0,.v 11] [jD 39 1,jP 9]) (tS 10 [59] <| .ret [jI 2,jN,jN,.v 23,.v 24,.v 25,.v 26,jI 0,.v 11] [jP 8,jP 9]))) Z29
def Z27:Tree:=tS 3 [123] <| .ite 21 (tV 4 1 <| tR 3 jN (.v 22) (.v 11) (.nil 8) (.dat 0)) Z28
def Z26:Tree:=tN 0 <| tF 0 6 <| tL 7 1 <| tX 4 8 0 <| tF 3 9 <| tL 10 1 <| tW <| tN 0 <| tF 0 12 <| tL 13 1 <| tX 4 14 0 <| tL 15 4 <| tW <| tS 2 [59] <| .ite 20 (tR 16 jN jN (.v 11) (.nil 8) (.nil 9)) Z27
def Z25:Tree:=tI 1 2 <| tO 0 <| tT 4 <| .ite 5 (tR 0 jN jN (jI 0) (.nil 8) (.nil 9)) Z26
def Z58:Tree:=tN 0 <| tF 0 35 <| tL 36 1 <| tX 4 37 1 <| tF 0 38 <| tL 39 1 <| tQ 40 3 <| .ite 41 (tN 0 <| tF 0 42 <| tL 43 1 <| tX 4 44 1 <| tF 1 45 <| tL 46 1 <| .nd (.pv (.bin .eql) [.v 47,.c (.string ⟨#[58]⟩)]) <| .ite 48 (tO 15 <| tO 15 <| .ret [jI 15,jN,jN,jI 0,jI 0,jI 0,.v 17,jI 0,.v 11] [jP 8,jP 9]) (tA 1 1 <| tV 9 49 <| tB 8 1 [rX 50 0] <| tS 10 [59] <| tR 1 (.v 58) jN (.v 11) (.dat 1) (.nil 9))) (tA 1 1 <| tV 9 42 <| tB 8 1 [rX 43 0] <| tS 10 [59] <| tR 1 (.v 51) jN (.v 11) (.dat 1) (.nil 9))
def Z57:Tree:=tQ 16 1 <| .ite 34 Z58 (tA 1 1 <| tV 9 35 <| tB 8 1 [rX 36 0] <| tS 10 [59] <| tR 1 (.v 44) jN (.v 11) (.dat 1) (.nil 9))
def Z56:Tree:=tS 2 [103,111,116,111] <| .ite 33 (tO 7 <| tS 10 [59] <| .ret [jI 14,jN,jN,jI 0,jI 0,jI 0,.v 34,jI 0,.v 11] [jP 8,jP 9]) Z57
def Z55:Tree:=tS 2 [114,101,116,117,114,110] <| .ite 32 (tS 2 [59] <| tT 33 <| .ite 34 (tA 1 1 <| tV 9 35 <| tB 8 1 [rX 36 0] <| tS 10 [59] <| tR 13 (.v 44) jN (.v 11) (.dat 1) (.nil 9)) (tR 13 jN jN (.v 11) (.nil 8) (.nil 9))) Z56
def Z54:Tree:=tS 2 [99,111,110,116,105,110,117,101] <| .ite 31 (tS 10 [59] <| tR 12 jN jN (.v 11) (.nil 8) (.nil 9)) Z55
def Z53:Tree:=tS 2 [98,114,101,97,107] <| .ite 30 (tS 10 [59] <| tR 11 jN jN (.v 11) (.nil 8) (.nil 9)) Z54
def Z52:Tree:=tS 2 [100,101,102,97,117,108,116] <| .ite 29 (tS 10 [58] <| tR 10 jN jN (.v 11) (.nil 8) (.nil 9)) Z53
def Z51:Tree:=tS 2 [99,97,115,101] <| .ite 28 (tO 14 <| tS 10 [58] <| .ret [jI 9,jN,jN,jI 0,jI 0,jI 0,jE,.v 29,.v 11] [jP 8,jP 9]) Z52
def Z50:Tree:=tS 2 [102,111,114] <| .ite 27 (tS 10 [40] <| tA 1 1 <| .nd (.call 13 [.one (.v 0),.one (.v 28),.one (.c (.string ⟨#[59]⟩))] []) <| tW <| tA 1 1 <| .nd (.call 13 [.one (.v 0),.one (.v 37),.one (.c (.string ⟨#[59]⟩))] []) <| tW <| tA 1 1 <| .nd (.call 13 [.one (.v 0),.one (.v 46),.one (.c (.string ⟨#[41]⟩))] []) <| tW <| tB 8 3 [rX 29 0,rX 38 1,rX 47 2] <| tA 1 1 <| tV 12 56 <| tB 9 1 [rS 57 4 5] <| tR 7 (.v 55) (.v 66) (.v 11) (.dat 3) (.dat 6)) Z51
def Z49:Tree:=tS 2 [100,111] <| .ite 26 (tA 1 1 <| tV 12 27 <| tB 9 1 [rS 28 0 1] <| tS 10 [119,104,105,108,101] <| tA 1 1 <| tV 11 38 <| tS 10 [59] <| tR 6 (.v 39) (.v 37) (.v 11) (.dat 3) (.dat 2)) Z50
def Z48:Tree:=tS 2 [115,119,105,116,99,104] <| .ite 25 (tA 1 1 <| tV 11 26 <| tA 1 1 <| tV 12 28 <| tB 9 1 [rS 29 1 2] <| tR 8 (.v 27) (.v 38) (.v 11) (.dat 0) (.dat 3)) Z49
def Z47:Tree:=tS 2 [119,104,105,108,101] <| .ite 24 (tA 1 1 <| tV 11 25 <| tA 1 1 <| tV 12 27 <| tB 9 1 [rS 28 1 2] <| tR 5 (.v 26) (.v 37) (.v 11) (.dat 0) (.dat 3)) Z48
def Z46:Tree:=tS 2 [105,102] <| .ite 23 (tA 1 1 <| tV 11 24 <| tA 1 1 <| tV 12 26 <| tB 9 1 [rS 27 1 2] <| tS 2 [101,108,115,101] <| .ite 37 (tA 1 1 <| tV 12 38 <| tB 9 1 [rS 39 4 5] <| tU 9 3 6 <| tR 4 (.v 25) (.v 49) (.v 11) (.dat 0) (.dat 7)) (tR 4 (.v 25) (.v 36) (.v 11) (.dat 0) (.dat 3))) Z47
def Z45:Tree:=tI 5 0 <| .ite 22 (tO 6 <| tO 7 <| tS 2 [91] <| .ite 28 (tO 8 <| tS 10 [59] <| .ret [jI 2,jN,jN,.v 23,.v 24,.v 29,.v 26,jI 0,.v 11] [jP 8,jP 9]) (tS 2 [61] <| .ite 29 (tA 1 1 <| tV 9 30 <| tB 8 1 [rX 31 0] <| tS 10 [59] <| .ret [jI 2,.v 39,jN,.v 23,.v 24,.v 25,.v 26,jI 0,.v 11] [jD 39 1,jP 9]) (tS 10 [59] <| .ret [jI 2,jN,jN,.v 23,.v 24,.v 25,.v 26,jI 0,.v 11] [jP 8,jP 9]))) Z46
def Z44:Tree:=tS 3 [123] <| .ite 21 (tV 4 1 <| tR 3 jN (.v 22) (.v 11) (.nil 8) (.dat 0)) Z45
def Z43:Tree:=tN 0 <| tF 0 6 <| tL 7 1 <| tX 4 8 0 <| tF 3 9 <| tL 10 1 <| tW <| tN 0 <| tF 0 12 <| tL 13 1 <| tX 4 14 0 <| tL 15 4 <| tW <| tS 2 [59] <| .ite 20 (tR 16 jN jN (.v 11) (.nil 8) (.nil 9)) Z44
def Z42:Tree:=tO 0 <| tT 4 <| .ite 5 (tR 0 jN jN (jI 0) (.nil 8) (.nil 9)) Z43
def Z24:Tree:=.nd (.pv (.bin .gtr) [.v 1,jI 20]) <| .ite 3 Z25 Z42
def Z75:Tree:=tN 0 <| tF 0 34 <| tL 35 1 <| tX 4 36 1 <| tF 0 37 <| tL 38 1 <| tQ 39 3 <| .ite 40 (tN 0 <| tF 0 41 <| tL 42 1 <| tX 4 43 1 <| tF 1 44 <| tL 45 1 <| .nd (.pv (.bin .eql) [.v 46,.c (.string ⟨#[58]⟩)]) <| .ite 47 (tO 15 <| tO 15 <| .ret [jI 15,jN,jN,jI 0,jI 0,jI 0,.v 16,jI 0,.v 10] [jP 8,jP 9]) (tA 1 1 <| tV 9 48 <| tB 8 1 [rX 49 0] <| tS 10 [59] <| tR 1 (.v 57) jN (.v 10) (.dat 1) (.nil 9))) (tA 1 1 <| tV 9 41 <| tB 8 1 [rX 42 0] <| tS 10 [59] <| tR 1 (.v 50) jN (.v 10) (.dat 1) (.nil 9))
def Z74:Tree:=tQ 15 1 <| .ite 33 Z75 (tA 1 1 <| tV 9 34 <| tB 8 1 [rX 35 0] <| tS 10 [59] <| tR 1 (.v 43) jN (.v 10) (.dat 1) (.nil 9))
def Z73:Tree:=tS 2 [103,111,116,111] <| .ite 32 (tO 7 <| tS 10 [59] <| .ret [jI 14,jN,jN,jI 0,jI 0,jI 0,.v 33,jI 0,.v 10] [jP 8,jP 9]) Z74
def Z72:Tree:=tS 2 [114,101,116,117,114,110] <| .ite 31 (tS 2 [59] <| tT 32 <| .ite 33 (tA 1 1 <| tV 9 34 <| tB 8 1 [rX 35 0] <| tS 10 [59] <| tR 13 (.v 43) jN (.v 10) (.dat 1) (.nil 9)) (tR 13 jN jN (.v 10) (.nil 8) (.nil 9))) Z73
def Z71:Tree:=tS 2 [99,111,110,116,105,110,117,101] <| .ite 30 (tS 10 [59] <| tR 12 jN jN (.v 10) (.nil 8) (.nil 9)) Z72
def Z70:Tree:=tS 2 [98,114,101,97,107] <| .ite 29 (tS 10 [59] <| tR 11 jN jN (.v 10) (.nil 8) (.nil 9)) Z71
def Z69:Tree:=tS 2 [100,101,102,97,117,108,116] <| .ite 28 (tS 10 [58] <| tR 10 jN jN (.v 10) (.nil 8) (.nil 9)) Z70
def Z68:Tree:=tS 2 [99,97,115,101] <| .ite 27 (tO 14 <| tS 10 [58] <| .ret [jI 9,jN,jN,jI 0,jI 0,jI 0,jE,.v 28,.v 10] [jP 8,jP 9]) Z69
def Z67:Tree:=tS 2 [102,111,114] <| .ite 26 (tS 10 [40] <| tA 1 1 <| .nd (.call 13 [.one (.v 0),.one (.v 27),.one (.c (.string ⟨#[59]⟩))] []) <| tW <| tA 1 1 <| .nd (.call 13 [.one (.v 0),.one (.v 36),.one (.c (.string ⟨#[59]⟩))] []) <| tW <| tA 1 1 <| .nd (.call 13 [.one (.v 0),.one (.v 45),.one (.c (.string ⟨#[41]⟩))] []) <| tW <| tB 8 3 [rX 28 0,rX 37 1,rX 46 2] <| tA 1 1 <| tV 12 55 <| tB 9 1 [rS 56 4 5] <| tR 7 (.v 54) (.v 65) (.v 10) (.dat 3) (.dat 6)) Z68
def Z66:Tree:=tS 2 [100,111] <| .ite 25 (tA 1 1 <| tV 12 26 <| tB 9 1 [rS 27 0 1] <| tS 10 [119,104,105,108,101] <| tA 1 1 <| tV 11 37 <| tS 10 [59] <| tR 6 (.v 38) (.v 36) (.v 10) (.dat 3) (.dat 2)) Z67
def Z65:Tree:=tS 2 [115,119,105,116,99,104] <| .ite 24 (tA 1 1 <| tV 11 25 <| tA 1 1 <| tV 12 27 <| tB 9 1 [rS 28 1 2] <| tR 8 (.v 26) (.v 37) (.v 10) (.dat 0) (.dat 3)) Z66
def Z64:Tree:=tS 2 [119,104,105,108,101] <| .ite 23 (tA 1 1 <| tV 11 24 <| tA 1 1 <| tV 12 26 <| tB 9 1 [rS 27 1 2] <| tR 5 (.v 25) (.v 36) (.v 10) (.dat 0) (.dat 3)) Z65
def Z63:Tree:=tS 2 [105,102] <| .ite 22 (tA 1 1 <| tV 11 23 <| tA 1 1 <| tV 12 25 <| tB 9 1 [rS 26 1 2] <| tS 2 [101,108,115,101] <| .ite 36 (tA 1 1 <| tV 12 37 <| tB 9 1 [rS 38 4 5] <| tU 9 3 6 <| tR 4 (.v 24) (.v 48) (.v 10) (.dat 0) (.dat 7)) (tR 4 (.v 24) (.v 35) (.v 10) (.dat 0) (.dat 3))) Z64
def Z62:Tree:=tI 5 0 <| .ite 21 (tO 6 <| tO 7 <| tS 2 [91] <| .ite 27 (tO 8 <| tS 10 [59] <| .ret [jI 2,jN,jN,.v 22,.v 23,.v 28,.v 25,jI 0,.v 10] [jP 8,jP 9]) (tS 2 [61] <| .ite 28 (tA 1 1 <| tV 9 29 <| tB 8 1 [rX 30 0] <| tS 10 [59] <| .ret [jI 2,.v 38,jN,.v 22,.v 23,.v 24,.v 25,jI 0,.v 10] [jD 38 1,jP 9]) (tS 10 [59] <| .ret [jI 2,jN,jN,.v 22,.v 23,.v 24,.v 25,jI 0,.v 10] [jP 8,jP 9]))) Z63
def Z61:Tree:=tS 3 [123] <| .ite 20 (tV 4 1 <| tR 3 jN (.v 21) (.v 10) (.nil 8) (.dat 0)) Z62
def Z60:Tree:=tN 0 <| tF 0 5 <| tL 6 1 <| tX 4 7 0 <| tF 3 8 <| tL 9 1 <| tW <| tN 0 <| tF 0 11 <| tL 12 1 <| tX 4 13 0 <| tL 14 4 <| tW <| tS 2 [59] <| .ite 19 (tR 16 jN jN (.v 10) (.nil 8) (.nil 9)) Z61
def Z59:Tree:=tO 0 <| tT 3 <| .ite 4 (tR 0 jN jN (jI 0) (.nil 8) (.nil 9)) Z60
def TStmt:Tree:=tW <| tO 0 <| .ite 2 Z24 Z59
theorem TStmt_eq:fnS Tryz.prog cfStmt [.one,.one] 74=some TStmt:=by kernel_rfl
theorem rstmt_step (F:Nat) (ihk:∀ f,f≤F→RBlockOk f) (ihe:∀ f,f≤F→RExprOk f) (ihs:∀ f,f≤F→RStmtOk f):RStmtOk (F + 1):=by
 intro d s s' x g gv fv w hx hd hr
 obtain ⟨hd0,hr⟩:=hr.rr
 refine st_of g gv fv (fn_ok (cf:=cfStmt) [(conOk g gv fv).x,(conFail g gv fv).x,(conTake g gv fv).x,(conIs g gv fv).x,(conBlock ihk).x,(conTyped g gv fv).x,(conTyp g gv fv).x,(conName g gv fv).x,(conLength g gv fv).x,(conExpr ihe).x,(conMust g gv fv).x,(conParen g gv fv).x,(conStmt ihs).x,(conMaybe g gv fv).x,(conValue g gv fv).x,(conNext g gv fv).x] rfl mixed RR.stable TStmt_eq
  (W:=fun args ds σ K=>args=[ptrV g,.int .i64 d]∧ds=[]∧σ=⟨s,hd0⟩∧∀ vs ds σ',((∃ A c B e,vs=stC x A c B e)∧ds=[exsOf x,bodyOf x]∧σ'.s=s')→K vs ds σ')
  (fun args ds σ K hW=>by obtain ⟨rfl,_⟩:=hW;exact ⟨rfl,rfl,trivial⟩) ?_ [ptrV g,.int .i64 d] [] ⟨s,hd0⟩ w _ _ hr.rd.lt hr (fun k h=>h.elim) (daOk_nil _ _ _) (by simp [Sx.flat,Value.cells,Value.oneCell']) ⟨rfl,rfl,rfl,fun vs ds σ' h=>h⟩)
 rintro args ds σ K ⟨rfl,rfl,rfl,hK⟩ _
 have hp0:=hr.1
 have hd1:=hd.1
 have hd2:=hd.2
 have hdd:=deeper hd
 rw [rstmt] at hx
 simp only at hx
 show Tree.holds _ _ _ _ (⟨[ptrV g,.int .i64 d],[],[],⟨s,hd0⟩⟩:Env RH)
 refine h_new fun g1=>?_
 refine kc (h:=w_ok ?_)
 try simp only [aS,hdd.2]
 refine h_ite rfl (fun q3=>?_) (fun q3=>?_)
 ·skip
  try simp only [q3,bB,bS,↓reduceIte] at hx
  refine h_pv rfl rfl ?_
  try simp only [aS,hdd.2]
  refine h_ite rfl (fun q5=>?_) (fun q5=>?_)
  ·skip
   try simp only [q3,q5,bB,bS,↓reduceIte] at hx
   have e:rdeep d s=rfail 2 s:=by simp only [rdeep,q3,q5,bS,↓reduceIte]
   rw [e] at hx
   have ef:=rok_fail2 q3
   simp only [ef,bS,↓reduceIte] at hx
   refine kc (h:=w_fail fun h6 p6=>?_)
   refine kc (h:=w_ok ?_)
   try simp only [aS,hdd.2]
   refine h_pv rfl rfl ?_
   try simp only [aS,hdd.2]
   refine h_ite rfl (fun q9=>?_) (fun q9=>?_)
   ·skip
    simp only [nS] at q9
    try simp only [q3,q5,q9,bB,bS,↓reduceIte] at hx
    try simp only [q3,q5,q9,bB,bS,↓reduceIte] at hx
    obtain ⟨rfl,rfl⟩:=sP hx
    refine kr (h:=?_)
    refine hK _ _ _ ⟨⟨_,_,_,_,rfl⟩,?_,rfl⟩
    exact lF
   ·skip
    simp only [nS] at q9
    try simp only [q3,q5,q9,bB,bS,↓reduceIte] at hx
    rw [ef] at q9
    cases q9
  ·skip
   try simp only [q3,q5,bB,bS,↓reduceIte] at hx
   have e:rdeep d s=s:=by simp only [rdeep,q3,q5,bS,↓reduceIte]
   rw [e] at hx
   simp only [q3,q5,bS,↓reduceIte] at hx
   refine kc (h:=w_ok ?_)
   try simp only [aS,hdd.2]
   refine h_pv rfl rfl ?_
   try simp only [aS,hdd.2]
   refine h_ite rfl (fun q12=>?_) (fun q12=>?_)
   ·skip
    simp only [nS] at q12
    try simp only [q3,q5,q12,bB,bS,↓reduceIte] at hx
    rw [q3] at q12
    cases q12
   ·skip
    simp only [nS] at q12
    try simp only [q3,q5,q12,bB,bS,↓reduceIte] at hx
    refine h_pv rfl rfl ?_
    try simp only [aS,hdd.2]
    refine h_pv rfl rfl ?_
    try simp only [aS,hdd.2]
    refine h_ld rfl RR.ld0 rfl (hdV_one _ _) ?_
    try simp only [aS,hdd.2]
    refine h_pv rfl (sem_ia 0 hp0) ?_
    try simp only [aS,hdd.2]
    refine h_pv rfl rfl ?_
    try simp only [aS,hdd.2]
    refine h_ld rfl (RR.ldF3 hp0) rfl (by simp [strV8,Value.oneCell']) ?_
    try simp only [aS,hdd.2]
    refine h_new fun g19=>?_
    refine h_pv rfl rfl ?_
    try simp only [aS,hdd.2]
    refine h_pv rfl rfl ?_
    try simp only [aS,hdd.2]
    refine h_ld rfl RR.ld0 rfl (hdV_one _ _) ?_
    try simp only [aS,hdd.2]
    refine h_pv rfl (sem_ia 0 hp0) ?_
    try simp only [aS,hdd.2]
    refine h_ld rfl (RR.ldH hp0) rfl (tokC_one _) ?_
    try simp only [aS,hdd.2]
    refine h_new fun g25=>?_
    refine kc (h:=w_take fun h26 p26=>?_)
    try simp only [aS,hdd.2]
    refine h_ite rfl (fun q27=>?_) (fun q27=>?_)
    ·skip
     try simp only [q3,q5,q12,q27,bB,bS,↓reduceIte] at hx
     try simp only [q3,q5,q12,q27,bB,bS,↓reduceIte] at hx
     obtain ⟨rfl,rfl⟩:=sP hx
     refine kr (h:=?_)
     refine hK _ _ _ ⟨⟨_,_,_,_,rfl⟩,?_,rfl⟩
     exact lF
    ·skip
     have z27:=rtake_no q27
     rw [z27] at p26
     rw [z27]
     try simp only [z27] at hx
     try simp only [q3,q5,q12,q27,bB,bS,↓reduceIte] at hx
     refine kc (h:=w_is ?_)
     try simp only [aS,hdd.2]
     refine h_ite rfl (fun q29=>?_) (fun q29=>?_)
     ·skip
      try simp only [q3,q5,q12,q27,q29,bB,bS,↓reduceIte] at hx
      try simp only [q3,q5,q12,q27,q29,bB,bS,↓reduceIte] at hx
      obtain ⟨⟨x30,s30⟩,e30,hx⟩:=Option.bind_eq_some_iff.1 hx
      simp only at hx
      refine kc (h:=w_block (f:=F) (by omega) e30 ⟨by omega,by omega⟩ fun A30 c30 h30 p30=>?_)
      try simp only [aS,hdd.2]
      try simp only [q3,q5,q12,q27,q29,bB,bS,↓reduceIte] at hx
      obtain ⟨rfl,rfl⟩:=sP hx
      refine kr (h:=?_)
      refine hK _ _ _ ⟨⟨_,_,_,_,rfl⟩,?_,rfl⟩
      exact lF
     ·skip
      try simp only [q3,q5,q12,q27,q29,bB,bS,↓reduceIte] at hx
      refine kc (h:=w_typed0 ?_)
      try simp only [aS,hdd.2]
      refine h_ite rfl (fun q32=>?_) (fun q32=>?_)
      ·skip
       try simp only [q3,q5,q12,q27,q29,q32,bB,bS,↓reduceIte] at hx
       refine kc (h:=w_typ fun h33 p33=>?_)
       try simp only [aS,hdd.2]
       refine kc (h:=w_name fun h34 p34=>?_)
       try simp only [aS,hdd.2]
       refine kc (h:=w_take fun h35 p35=>?_)
       try simp only [aS,hdd.2]
       refine h_ite rfl (fun q36=>?_) (fun q36=>?_)
       ·skip
        try simp only [q3,q5,q12,q27,q29,q32,q36,bB,bS,↓reduceIte] at hx
        refine kc (h:=w_length fun h37 p37=>?_)
        try simp only [aS,hdd.2]
        refine kc (h:=w_must fun h38 p38=>?_)
        try simp only [q3,q5,q12,q27,q29,q32,q36,bB,bS,↓reduceIte] at hx
        obtain ⟨rfl,rfl⟩:=sP hx
        refine kr (h:=?_)
        refine hK _ _ _ ⟨⟨_,_,_,_,rfl⟩,?_,rfl⟩
        exact lF
       ·skip
        have z36:=rtake_no q36
        rw [z36] at p35
        rw [z36]
        try simp only [z36] at hx
        try simp only [q3,q5,q12,q27,q29,q32,q36,bB,bS,↓reduceIte] at hx
        refine kc (h:=w_take fun h39 p39=>?_)
        try simp only [aS,hdd.2]
        refine h_ite rfl (fun q40=>?_) (fun q40=>?_)
        ·skip
         try simp only [q3,q5,q12,q27,q29,q32,q36,q40,bB,bS,↓reduceIte] at hx
         refine h_pv rfl rfl ?_
         try simp only [aS,hdd.2]
         try simp only [q3,q5,q12,q27,q29,q32,q36,q40,bB,bS,↓reduceIte] at hx
         obtain ⟨⟨x42,s42⟩,e42,hx⟩:=Option.bind_eq_some_iff.1 hx
         simp only at hx
         refine kc (h:=w_expr (f:=F) (by omega) e42 ⟨by omega,by omega⟩ fun A42 c42 h42 p42=>?_)
         try simp only [aS,hdd.2]
         refine kb (h:=fun g43=>?_)
         try simp only [aS,hdd.2]
         refine kc (h:=w_must fun h44 p44=>?_)
         try simp only [q3,q5,q12,q27,q29,q32,q36,q40,bB,bS,↓reduceIte] at hx
         obtain ⟨rfl,rfl⟩:=sP hx
         refine kr (h:=?_)
         refine hK _ _ _ ⟨⟨_,_,_,_,rfl⟩,?_,rfl⟩
         exact lF
        ·skip
         have z40:=rtake_no q40
         rw [z40] at p39
         rw [z40]
         try simp only [z40] at hx
         try simp only [q3,q5,q12,q27,q29,q32,q36,q40,bB,bS,↓reduceIte] at hx
         refine kc (h:=w_must fun h45 p45=>?_)
         try simp only [q3,q5,q12,q27,q29,q32,q36,q40,bB,bS,↓reduceIte] at hx
         obtain ⟨rfl,rfl⟩:=sP hx
         refine kr (h:=?_)
         refine hK _ _ _ ⟨⟨_,_,_,_,rfl⟩,?_,rfl⟩
         exact lF
      ·skip
       try simp only [q3,q5,q12,q27,q29,q32,bB,bS,↓reduceIte] at hx
       refine kc (h:=w_take fun h46 p46=>?_)
       try simp only [aS,hdd.2]
       refine h_ite rfl (fun q47=>?_) (fun q47=>?_)
       ·skip
        try simp only [q3,q5,q12,q27,q29,q32,q47,bB,bS,↓reduceIte] at hx
        refine h_pv rfl rfl ?_
        try simp only [aS,hdd.2]
        try simp only [q3,q5,q12,q27,q29,q32,q47,bB,bS,↓reduceIte] at hx
        obtain ⟨⟨x49,s49⟩,e49,hx⟩:=Option.bind_eq_some_iff.1 hx
        simp only at hx
        refine kc (h:=w_paren (f:=F) e49 ⟨by omega,by omega⟩ fun A49 c49 h49 p49=>?_)
        try simp only [aS,hdd.2]
        refine h_pv rfl rfl ?_
        try simp only [aS,hdd.2]
        try simp only [q3,q5,q12,q27,q29,q32,q47,bB,bS,↓reduceIte] at hx
        obtain ⟨⟨x51,s51⟩,e51,hx⟩:=Option.bind_eq_some_iff.1 hx
        simp only at hx
        refine kc (h:=w_stmt (f:=F) (by omega) e51 ⟨by omega,by omega⟩ fun A51 c51 B51 d51 h51 p51=>?_)
        try simp only [aS,hdd.2]
        refine kb (h:=fun g52=>?_)
        try simp only [aS,hdd.2]
        refine kc (h:=w_take fun h53 p53=>?_)
        try simp only [aS,hdd.2]
        refine h_ite rfl (fun q54=>?_) (fun q54=>?_)
        ·skip
         try simp only [q3,q5,q12,q27,q29,q32,q47,q54,bB,bS,↓reduceIte] at hx
         refine h_pv rfl rfl ?_
         try simp only [aS,hdd.2]
         try simp only [q3,q5,q12,q27,q29,q32,q47,q54,bB,bS,↓reduceIte] at hx
         obtain ⟨⟨x56,s56⟩,e56,hx⟩:=Option.bind_eq_some_iff.1 hx
         simp only at hx
         refine kc (h:=w_stmt (f:=F) (by omega) e56 ⟨by omega,by omega⟩ fun A56 c56 B56 d56 h56 p56=>?_)
         try simp only [aS,hdd.2]
         refine kb (h:=fun g57=>?_)
         try simp only [aS,hdd.2]
         refine h_app rfl rfl (by simp) fun A58 c58=>?_
         try simp only [aS,hdd.2]
         try simp only [q3,q5,q12,q27,q29,q32,q47,q54,bB,bS,↓reduceIte] at hx
         obtain ⟨rfl,rfl⟩:=sP hx
         refine kr (h:=?_)
         refine hK _ _ _ ⟨⟨_,_,_,_,rfl⟩,?_,rfl⟩
         exact lF
        ·skip
         have z54:=rtake_no q54
         rw [z54] at p53
         rw [z54]
         try simp only [z54] at hx
         try simp only [q3,q5,q12,q27,q29,q32,q47,q54,bB,bS,↓reduceIte] at hx
         try simp only [q3,q5,q12,q27,q29,q32,q47,q54,bB,bS,↓reduceIte] at hx
         obtain ⟨rfl,rfl⟩:=sP hx
         refine kr (h:=?_)
         refine hK _ _ _ ⟨⟨_,_,_,_,rfl⟩,?_,rfl⟩
         exact lF
       ·skip
        have z47:=rtake_no q47
        rw [z47] at p46
        rw [z47]
        try simp only [z47] at hx
        try simp only [q3,q5,q12,q27,q29,q32,q47,bB,bS,↓reduceIte] at hx
        refine kc (h:=w_take fun h59 p59=>?_)
        try simp only [aS,hdd.2]
        refine h_ite rfl (fun q60=>?_) (fun q60=>?_)
        ·skip
         try simp only [q3,q5,q12,q27,q29,q32,q47,q60,bB,bS,↓reduceIte] at hx
         refine h_pv rfl rfl ?_
         try simp only [aS,hdd.2]
         try simp only [q3,q5,q12,q27,q29,q32,q47,q60,bB,bS,↓reduceIte] at hx
         obtain ⟨⟨x62,s62⟩,e62,hx⟩:=Option.bind_eq_some_iff.1 hx
         simp only at hx
         refine kc (h:=w_paren (f:=F) e62 ⟨by omega,by omega⟩ fun A62 c62 h62 p62=>?_)
         try simp only [aS,hdd.2]
         refine h_pv rfl rfl ?_
         try simp only [aS,hdd.2]
         try simp only [q3,q5,q12,q27,q29,q32,q47,q60,bB,bS,↓reduceIte] at hx
         obtain ⟨⟨x64,s64⟩,e64,hx⟩:=Option.bind_eq_some_iff.1 hx
         simp only at hx
         refine kc (h:=w_stmt (f:=F) (by omega) e64 ⟨by omega,by omega⟩ fun A64 c64 B64 d64 h64 p64=>?_)
         try simp only [aS,hdd.2]
         refine kb (h:=fun g65=>?_)
         try simp only [aS,hdd.2]
         try simp only [q3,q5,q12,q27,q29,q32,q47,q60,bB,bS,↓reduceIte] at hx
         obtain ⟨rfl,rfl⟩:=sP hx
         refine kr (h:=?_)
         refine hK _ _ _ ⟨⟨_,_,_,_,rfl⟩,?_,rfl⟩
         exact lF
        ·skip
         have z60:=rtake_no q60
         rw [z60] at p59
         rw [z60]
         try simp only [z60] at hx
         try simp only [q3,q5,q12,q27,q29,q32,q47,q60,bB,bS,↓reduceIte] at hx
         refine kc (h:=w_take fun h66 p66=>?_)
         try simp only [aS,hdd.2]
         refine h_ite rfl (fun q67=>?_) (fun q67=>?_)
         ·skip
          try simp only [q3,q5,q12,q27,q29,q32,q47,q60,q67,bB,bS,↓reduceIte] at hx
          refine h_pv rfl rfl ?_
          try simp only [aS,hdd.2]
          try simp only [q3,q5,q12,q27,q29,q32,q47,q60,q67,bB,bS,↓reduceIte] at hx
          obtain ⟨⟨x69,s69⟩,e69,hx⟩:=Option.bind_eq_some_iff.1 hx
          simp only at hx
          refine kc (h:=w_paren (f:=F) e69 ⟨by omega,by omega⟩ fun A69 c69 h69 p69=>?_)
          try simp only [aS,hdd.2]
          refine h_pv rfl rfl ?_
          try simp only [aS,hdd.2]
          try simp only [q3,q5,q12,q27,q29,q32,q47,q60,q67,bB,bS,↓reduceIte] at hx
          obtain ⟨⟨x71,s71⟩,e71,hx⟩:=Option.bind_eq_some_iff.1 hx
          simp only at hx
          refine kc (h:=w_stmt (f:=F) (by omega) e71 ⟨by omega,by omega⟩ fun A71 c71 B71 d71 h71 p71=>?_)
          try simp only [aS,hdd.2]
          refine kb (h:=fun g72=>?_)
          try simp only [aS,hdd.2]
          try simp only [q3,q5,q12,q27,q29,q32,q47,q60,q67,bB,bS,↓reduceIte] at hx
          obtain ⟨rfl,rfl⟩:=sP hx
          refine kr (h:=?_)
          refine hK _ _ _ ⟨⟨_,_,_,_,rfl⟩,?_,rfl⟩
          exact lF
         ·skip
          have z67:=rtake_no q67
          rw [z67] at p66
          rw [z67]
          try simp only [z67] at hx
          try simp only [q3,q5,q12,q27,q29,q32,q47,q60,q67,bB,bS,↓reduceIte] at hx
          refine kc (h:=w_take fun h73 p73=>?_)
          try simp only [aS,hdd.2]
          refine h_ite rfl (fun q74=>?_) (fun q74=>?_)
          ·skip
           try simp only [q3,q5,q12,q27,q29,q32,q47,q60,q67,q74,bB,bS,↓reduceIte] at hx
           refine h_pv rfl rfl ?_
           try simp only [aS,hdd.2]
           try simp only [q3,q5,q12,q27,q29,q32,q47,q60,q67,q74,bB,bS,↓reduceIte] at hx
           obtain ⟨⟨x76,s76⟩,e76,hx⟩:=Option.bind_eq_some_iff.1 hx
           simp only at hx
           refine kc (h:=w_stmt (f:=F) (by omega) e76 ⟨by omega,by omega⟩ fun A76 c76 B76 d76 h76 p76=>?_)
           try simp only [aS,hdd.2]
           refine kb (h:=fun g77=>?_)
           try simp only [aS,hdd.2]
           refine kc (h:=w_must fun h78 p78=>?_)
           refine h_pv rfl rfl ?_
           try simp only [aS,hdd.2]
           try simp only [q3,q5,q12,q27,q29,q32,q47,q60,q67,q74,bB,bS,↓reduceIte] at hx
           obtain ⟨⟨x80,s80⟩,e80,hx⟩:=Option.bind_eq_some_iff.1 hx
           simp only at hx
           refine kc (h:=w_paren (f:=F) e80 ⟨by omega,by omega⟩ fun A80 c80 h80 p80=>?_)
           try simp only [aS,hdd.2]
           refine kc (h:=w_must fun h81 p81=>?_)
           try simp only [q3,q5,q12,q27,q29,q32,q47,q60,q67,q74,bB,bS,↓reduceIte] at hx
           obtain ⟨rfl,rfl⟩:=sP hx
           refine kr (h:=?_)
           refine hK _ _ _ ⟨⟨_,_,_,_,rfl⟩,?_,rfl⟩
           exact lF
          ·skip
           have z74:=rtake_no q74
           rw [z74] at p73
           rw [z74]
           try simp only [z74] at hx
           try simp only [q3,q5,q12,q27,q29,q32,q47,q60,q67,q74,bB,bS,↓reduceIte] at hx
           refine kc (h:=w_take fun h82 p82=>?_)
           try simp only [aS,hdd.2]
           refine h_ite rfl (fun q83=>?_) (fun q83=>?_)
           ·skip
            try simp only [q3,q5,q12,q27,q29,q32,q47,q60,q67,q74,q83,bB,bS,↓reduceIte] at hx
            refine kc (h:=w_must fun h84 p84=>?_)
            refine h_pv rfl rfl ?_
            try simp only [aS,hdd.2]
            try simp only [q3,q5,q12,q27,q29,q32,q47,q60,q67,q74,q83,bB,bS,↓reduceIte] at hx
            obtain ⟨⟨x86,s86⟩,e86,hx⟩:=Option.bind_eq_some_iff.1 hx
            simp only at hx
            refine kc (h:=w_maybe (f:=F) e86 ⟨by omega,by omega⟩ fun A86 c86 h86 p86=>?_)
            try simp only [aS,hdd.2]
            refine h_new fun g87=>?_
            refine h_pv rfl rfl ?_
            try simp only [aS,hdd.2]
            try simp only [q3,q5,q12,q27,q29,q32,q47,q60,q67,q74,q83,bB,bS,↓reduceIte] at hx
            obtain ⟨⟨x89,s89⟩,e89,hx⟩:=Option.bind_eq_some_iff.1 hx
            simp only at hx
            refine kc (h:=w_maybe (f:=F) e89 ⟨by omega,by omega⟩ fun A89 c89 h89 p89=>?_)
            try simp only [aS,hdd.2]
            refine h_new fun g90=>?_
            refine h_pv rfl rfl ?_
            try simp only [aS,hdd.2]
            try simp only [q3,q5,q12,q27,q29,q32,q47,q60,q67,q74,q83,bB,bS,↓reduceIte] at hx
            obtain ⟨⟨x92,s92⟩,e92,hx⟩:=Option.bind_eq_some_iff.1 hx
            simp only at hx
            refine kc (h:=w_maybe (f:=F) e92 ⟨by omega,by omega⟩ fun A92 c92 h92 p92=>?_)
            try simp only [aS,hdd.2]
            refine h_new fun g93=>?_
            refine kb (h:=fun g94=>?_)
            try simp only [aS,hdd.2]
            refine h_pv rfl rfl ?_
            try simp only [aS,hdd.2]
            try simp only [q3,q5,q12,q27,q29,q32,q47,q60,q67,q74,q83,bB,bS,↓reduceIte] at hx
            obtain ⟨⟨x96,s96⟩,e96,hx⟩:=Option.bind_eq_some_iff.1 hx
            simp only at hx
            refine kc (h:=w_stmt (f:=F) (by omega) e96 ⟨by omega,by omega⟩ fun A96 c96 B96 d96 h96 p96=>?_)
            try simp only [aS,hdd.2]
            refine kb (h:=fun g97=>?_)
            try simp only [aS,hdd.2]
            try simp only [q3,q5,q12,q27,q29,q32,q47,q60,q67,q74,q83,bB,bS,↓reduceIte] at hx
            obtain ⟨rfl,rfl⟩:=sP hx
            refine kr (h:=?_)
            refine hK _ _ _ ⟨⟨_,_,_,_,rfl⟩,?_,rfl⟩
            exact lF
           ·skip
            have z83:=rtake_no q83
            rw [z83] at p82
            rw [z83]
            try simp only [z83] at hx
            try simp only [q3,q5,q12,q27,q29,q32,q47,q60,q67,q74,q83,bB,bS,↓reduceIte] at hx
            refine kc (h:=w_take fun h98 p98=>?_)
            try simp only [aS,hdd.2]
            refine h_ite rfl (fun q99=>?_) (fun q99=>?_)
            ·skip
             try simp only [q3,q5,q12,q27,q29,q32,q47,q60,q67,q74,q83,q99,bB,bS,↓reduceIte] at hx
             refine kc (h:=w_value fun h100 p100=>?_)
             try simp only [aS,hdd.2]
             refine kc (h:=w_must fun h101 p101=>?_)
             try simp only [q3,q5,q12,q27,q29,q32,q47,q60,q67,q74,q83,q99,bB,bS,↓reduceIte] at hx
             obtain ⟨rfl,rfl⟩:=sP hx
             refine kr (h:=?_)
             refine hK _ _ _ ⟨⟨_,_,_,_,rfl⟩,?_,rfl⟩
             exact lF
            ·skip
             have z99:=rtake_no q99
             rw [z99] at p98
             rw [z99]
             try simp only [z99] at hx
             try simp only [q3,q5,q12,q27,q29,q32,q47,q60,q67,q74,q83,q99,bB,bS,↓reduceIte] at hx
             refine kc (h:=w_take fun h102 p102=>?_)
             try simp only [aS,hdd.2]
             refine h_ite rfl (fun q103=>?_) (fun q103=>?_)
             ·skip
              try simp only [q3,q5,q12,q27,q29,q32,q47,q60,q67,q74,q83,q99,q103,bB,bS,↓reduceIte] at hx
              refine kc (h:=w_must fun h104 p104=>?_)
              try simp only [q3,q5,q12,q27,q29,q32,q47,q60,q67,q74,q83,q99,q103,bB,bS,↓reduceIte] at hx
              obtain ⟨rfl,rfl⟩:=sP hx
              refine kr (h:=?_)
              refine hK _ _ _ ⟨⟨_,_,_,_,rfl⟩,?_,rfl⟩
              exact lF
             ·skip
              have z103:=rtake_no q103
              rw [z103] at p102
              rw [z103]
              try simp only [z103] at hx
              try simp only [q3,q5,q12,q27,q29,q32,q47,q60,q67,q74,q83,q99,q103,bB,bS,↓reduceIte] at hx
              refine kc (h:=w_take fun h105 p105=>?_)
              try simp only [aS,hdd.2]
              refine h_ite rfl (fun q106=>?_) (fun q106=>?_)
              ·skip
               try simp only [q3,q5,q12,q27,q29,q32,q47,q60,q67,q74,q83,q99,q103,q106,bB,bS,↓reduceIte] at hx
               refine kc (h:=w_must fun h107 p107=>?_)
               try simp only [q3,q5,q12,q27,q29,q32,q47,q60,q67,q74,q83,q99,q103,q106,bB,bS,↓reduceIte] at hx
               obtain ⟨rfl,rfl⟩:=sP hx
               refine kr (h:=?_)
               refine hK _ _ _ ⟨⟨_,_,_,_,rfl⟩,?_,rfl⟩
               exact lF
              ·skip
               have z106:=rtake_no q106
               rw [z106] at p105
               rw [z106]
               try simp only [z106] at hx
               try simp only [q3,q5,q12,q27,q29,q32,q47,q60,q67,q74,q83,q99,q103,q106,bB,bS,↓reduceIte] at hx
               refine kc (h:=w_take fun h108 p108=>?_)
               try simp only [aS,hdd.2]
               refine h_ite rfl (fun q109=>?_) (fun q109=>?_)
               ·skip
                try simp only [q3,q5,q12,q27,q29,q32,q47,q60,q67,q74,q83,q99,q103,q106,q109,bB,bS,↓reduceIte] at hx
                refine kc (h:=w_must fun h110 p110=>?_)
                try simp only [q3,q5,q12,q27,q29,q32,q47,q60,q67,q74,q83,q99,q103,q106,q109,bB,bS,↓reduceIte] at hx
                obtain ⟨rfl,rfl⟩:=sP hx
                refine kr (h:=?_)
                refine hK _ _ _ ⟨⟨_,_,_,_,rfl⟩,?_,rfl⟩
                exact lF
               ·skip
                have z109:=rtake_no q109
                rw [z109] at p108
                rw [z109]
                try simp only [z109] at hx
                try simp only [q3,q5,q12,q27,q29,q32,q47,q60,q67,q74,q83,q99,q103,q106,q109,bB,bS,↓reduceIte] at hx
                refine kc (h:=w_take fun h111 p111=>?_)
                try simp only [aS,hdd.2]
                refine h_ite rfl (fun q112=>?_) (fun q112=>?_)
                ·skip
                 try simp only [q3,q5,q12,q27,q29,q32,q47,q60,q67,q74,q83,q99,q103,q106,q109,q112,bB,bS,↓reduceIte] at hx
                 refine kc (h:=w_take fun h113 p113=>?_)
                 try simp only [aS,hdd.2]
                 refine h_pv rfl rfl ?_
                 try simp only [aS,hdd.2]
                 refine h_ite rfl (fun q115=>?_) (fun q115=>?_)
                 ·skip
                  simp only [nS] at q115
                  have z115:=rtake_no q115
                  rw [z115] at p113
                  rw [z115]
                  try simp only [z115] at hx
                  try simp only [q3,q5,q12,q27,q29,q32,q47,q60,q67,q74,q83,q99,q103,q106,q109,q112,q115,bB,bS,↓reduceIte] at hx
                  refine h_pv rfl rfl ?_
                  try simp only [aS,hdd.2]
                  try simp only [q3,q5,q12,q27,q29,q32,q47,q60,q67,q74,q83,q99,q103,q106,q109,q112,q115,bB,bS,↓reduceIte] at hx
                  obtain ⟨⟨x117,s117⟩,e117,hx⟩:=Option.bind_eq_some_iff.1 hx
                  simp only at hx
                  refine kc (h:=w_expr (f:=F) (by omega) e117 ⟨by omega,by omega⟩ fun A117 c117 h117 p117=>?_)
                  try simp only [aS,hdd.2]
                  refine kb (h:=fun g118=>?_)
                  try simp only [aS,hdd.2]
                  refine kc (h:=w_must fun h119 p119=>?_)
                  try simp only [q3,q5,q12,q27,q29,q32,q47,q60,q67,q74,q83,q99,q103,q106,q109,q112,q115,bB,bS,↓reduceIte] at hx
                  obtain ⟨rfl,rfl⟩:=sP hx
                  refine kr (h:=?_)
                  refine hK _ _ _ ⟨⟨_,_,_,_,rfl⟩,?_,rfl⟩
                  exact lF
                 ·skip
                  simp only [nS] at q115
                  try simp only [q3,q5,q12,q27,q29,q32,q47,q60,q67,q74,q83,q99,q103,q106,q109,q112,q115,bB,bS,↓reduceIte] at hx
                  try simp only [q3,q5,q12,q27,q29,q32,q47,q60,q67,q74,q83,q99,q103,q106,q109,q112,q115,bB,bS,↓reduceIte] at hx
                  obtain ⟨rfl,rfl⟩:=sP hx
                  refine kr (h:=?_)
                  refine hK _ _ _ ⟨⟨_,_,_,_,rfl⟩,?_,rfl⟩
                  exact lF
                ·skip
                 have z112:=rtake_no q112
                 rw [z112] at p111
                 rw [z112]
                 try simp only [z112] at hx
                 try simp only [q3,q5,q12,q27,q29,q32,q47,q60,q67,q74,q83,q99,q103,q106,q109,q112,bB,bS,↓reduceIte] at hx
                 refine kc (h:=w_take fun h120 p120=>?_)
                 try simp only [aS,hdd.2]
                 refine h_ite rfl (fun q121=>?_) (fun q121=>?_)
                 ·skip
                  try simp only [q3,q5,q12,q27,q29,q32,q47,q60,q67,q74,q83,q99,q103,q106,q109,q112,q121,bB,bS,↓reduceIte] at hx
                  refine kc (h:=w_name fun h122 p122=>?_)
                  try simp only [aS,hdd.2]
                  refine kc (h:=w_must fun h123 p123=>?_)
                  try simp only [q3,q5,q12,q27,q29,q32,q47,q60,q67,q74,q83,q99,q103,q106,q109,q112,q121,bB,bS,↓reduceIte] at hx
                  obtain ⟨rfl,rfl⟩:=sP hx
                  refine kr (h:=?_)
                  refine hK _ _ _ ⟨⟨_,_,_,_,rfl⟩,?_,rfl⟩
                  exact lF
                 ·skip
                  have z121:=rtake_no q121
                  rw [z121] at p120
                  rw [z121]
                  try simp only [z121] at hx
                  try simp only [q3,q5,q12,q27,q29,q32,q47,q60,q67,q74,q83,q99,q103,q106,q109,q112,q121,bB,bS,↓reduceIte] at hx
                  refine h_pv rfl rfl ?_
                  try simp only [aS,hdd.2]
                  refine h_ite rfl (fun q125=>?_) (fun q125=>?_)
                  ·skip
                   try simp only [q3,q5,q12,q27,q29,q32,q47,q60,q67,q74,q83,q99,q103,q106,q109,q112,q121,q125,bB,bS,↓reduceIte] at hx
                   have hp1:=wf_two hr.2.1.2 (by simpa using q125)
                   refine h_pv rfl rfl ?_
                   try simp only [aS,hdd.2]
                   refine h_pv rfl rfl ?_
                   try simp only [aS,hdd.2]
                   refine h_ld rfl RR.ld0 rfl (hdV_one _ _) ?_
                   try simp only [aS,hdd.2]
                   refine h_pv rfl (sem_ia 1 hp1) ?_
                   try simp only [aS,hdd.2]
                   refine h_pv rfl rfl ?_
                   try simp only [aS,hdd.2]
                   refine h_ld rfl (RR.ldG0 1 hp1) rfl (by simp [strV8,Value.oneCell']) ?_
                   try simp only [aS,hdd.2]
                   refine h_pv rfl rfl ?_
                   try simp only [aS,hdd.2]
                   refine h_ite rfl (fun q133=>?_) (fun q133=>?_)
                   ·skip
                    try simp only [q3,q5,q12,q27,q29,q32,q47,q60,q67,q74,q83,q99,q103,q106,q109,q112,q121,q125,q133,bB,bS,↓reduceIte] at hx
                    refine h_pv rfl rfl ?_
                    try simp only [aS,hdd.2]
                    refine h_pv rfl rfl ?_
                    try simp only [aS,hdd.2]
                    refine h_ld rfl RR.ld0 rfl (hdV_one _ _) ?_
                    try simp only [aS,hdd.2]
                    refine h_pv rfl (sem_ia 1 hp1) ?_
                    try simp only [aS,hdd.2]
                    refine h_pv rfl rfl ?_
                    try simp only [aS,hdd.2]
                    refine h_ld rfl (RR.ldG1 1 hp1) rfl (by simp [strV8,Value.oneCell']) ?_
                    try simp only [aS,hdd.2]
                    refine h_pv rfl rfl ?_
                    try simp only [aS,hdd.2]
                    refine h_ite rfl (fun q141=>?_) (fun q141=>?_)
                    ·skip
                     try simp only [List.toList_toArray] at q141
                     try simp only [q3,q5,q12,q27,q29,q32,q47,q60,q67,q74,q83,q99,q103,q106,q109,q112,q121,q125,q133,q141,bB,bS,↓reduceIte] at hx
                     refine kc (h:=w_next fun h142 p142=>?_)
                     try simp only [aS,hdd.2]
                     refine kc (h:=w_next fun h143 p143=>?_)
                     try simp only [aS,hdd.2]
                     try simp only [q3,q5,q12,q27,q29,q32,q47,q60,q67,q74,q83,q99,q103,q106,q109,q112,q121,q125,q133,q141,bB,bS,↓reduceIte] at hx
                     obtain ⟨rfl,rfl⟩:=sP hx
                     refine kr (h:=?_)
                     refine hK _ _ _ ⟨⟨_,_,_,_,rfl⟩,?_,rfl⟩
                     exact lF
                    ·skip
                     try simp only [List.toList_toArray] at q141
                     try simp only [q3,q5,q12,q27,q29,q32,q47,q60,q67,q74,q83,q99,q103,q106,q109,q112,q121,q125,q133,q141,bB,bS,↓reduceIte] at hx
                     refine h_pv rfl rfl ?_
                     try simp only [aS,hdd.2]
                     try simp only [q3,q5,q12,q27,q29,q32,q47,q60,q67,q74,q83,q99,q103,q106,q109,q112,q121,q125,q133,q141,bB,bS,↓reduceIte] at hx
                     obtain ⟨⟨x145,s145⟩,e145,hx⟩:=Option.bind_eq_some_iff.1 hx
                     simp only at hx
                     refine kc (h:=w_expr (f:=F) (by omega) e145 ⟨by omega,by omega⟩ fun A145 c145 h145 p145=>?_)
                     try simp only [aS,hdd.2]
                     refine kb (h:=fun g146=>?_)
                     try simp only [aS,hdd.2]
                     refine kc (h:=w_must fun h147 p147=>?_)
                     try simp only [q3,q5,q12,q27,q29,q32,q47,q60,q67,q74,q83,q99,q103,q106,q109,q112,q121,q125,q133,q141,bB,bS,↓reduceIte] at hx
                     obtain ⟨rfl,rfl⟩:=sP hx
                     refine kr (h:=?_)
                     refine hK _ _ _ ⟨⟨_,_,_,_,rfl⟩,?_,rfl⟩
                     exact lF
                   ·skip
                    try simp only [q3,q5,q12,q27,q29,q32,q47,q60,q67,q74,q83,q99,q103,q106,q109,q112,q121,q125,q133,bB,bS,↓reduceIte] at hx
                    refine h_pv rfl rfl ?_
                    try simp only [aS,hdd.2]
                    try simp only [q3,q5,q12,q27,q29,q32,q47,q60,q67,q74,q83,q99,q103,q106,q109,q112,q121,q125,q133,bB,bS,↓reduceIte] at hx
                    obtain ⟨⟨x149,s149⟩,e149,hx⟩:=Option.bind_eq_some_iff.1 hx
                    simp only at hx
                    refine kc (h:=w_expr (f:=F) (by omega) e149 ⟨by omega,by omega⟩ fun A149 c149 h149 p149=>?_)
                    try simp only [aS,hdd.2]
                    refine kb (h:=fun g150=>?_)
                    try simp only [aS,hdd.2]
                    refine kc (h:=w_must fun h151 p151=>?_)
                    try simp only [q3,q5,q12,q27,q29,q32,q47,q60,q67,q74,q83,q99,q103,q106,q109,q112,q121,q125,q133,bB,bS,↓reduceIte] at hx
                    obtain ⟨rfl,rfl⟩:=sP hx
                    refine kr (h:=?_)
                    refine hK _ _ _ ⟨⟨_,_,_,_,rfl⟩,?_,rfl⟩
                    exact lF
                  ·skip
                   try simp only [q3,q5,q12,q27,q29,q32,q47,q60,q67,q74,q83,q99,q103,q106,q109,q112,q121,q125,bB,bS,↓reduceIte] at hx
                   refine h_pv rfl rfl ?_
                   try simp only [aS,hdd.2]
                   try simp only [q3,q5,q12,q27,q29,q32,q47,q60,q67,q74,q83,q99,q103,q106,q109,q112,q121,q125,bB,bS,↓reduceIte] at hx
                   obtain ⟨⟨x153,s153⟩,e153,hx⟩:=Option.bind_eq_some_iff.1 hx
                   simp only at hx
                   refine kc (h:=w_expr (f:=F) (by omega) e153 ⟨by omega,by omega⟩ fun A153 c153 h153 p153=>?_)
                   try simp only [aS,hdd.2]
                   refine kb (h:=fun g154=>?_)
                   try simp only [aS,hdd.2]
                   refine kc (h:=w_must fun h155 p155=>?_)
                   try simp only [q3,q5,q12,q27,q29,q32,q47,q60,q67,q74,q83,q99,q103,q106,q109,q112,q121,q125,bB,bS,↓reduceIte] at hx
                   obtain ⟨rfl,rfl⟩:=sP hx
                   refine kr (h:=?_)
                   refine hK _ _ _ ⟨⟨_,_,_,_,rfl⟩,?_,rfl⟩
                   exact lF
 ·skip
  try simp only [q3,bB,bS,↓reduceIte] at hx
  have e:rdeep d s=s:=by simp [rdeep,q3]
  rw [e] at hx
  simp only [q3,bS,↓reduceIte] at hx
  refine kc (h:=w_ok ?_)
  try simp only [aS,hdd.2]
  refine h_pv rfl rfl ?_
  try simp only [aS,hdd.2]
  refine h_ite rfl (fun q158=>?_) (fun q158=>?_)
  ·skip
   simp only [nS] at q158
   try simp only [q3,q158,bB,bS,↓reduceIte] at hx
   try simp only [q3,q158,bB,bS,↓reduceIte] at hx
   obtain ⟨rfl,rfl⟩:=sP hx
   refine kr (h:=?_)
   refine hK _ _ _ ⟨⟨_,_,_,_,rfl⟩,?_,rfl⟩
   exact lF
  ·skip
   simp only [nS] at q158
   try simp only [q3,q158,bB,bS,↓reduceIte] at hx
   rw [q3] at q158
   cases q158
end Go.Proofs.YtdmacgoeikjdbaaGreatDoor

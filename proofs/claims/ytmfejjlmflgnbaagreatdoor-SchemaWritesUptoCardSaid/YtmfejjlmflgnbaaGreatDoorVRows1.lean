/- THE TABLE'S GREAT REGION: schema.Rows, operation by operation. -/
import Derived.Test.YtmfejjlmflgnbaaGreatDoorVRows0
set_option linter.unusedVariables false
set_option linter.unusedSimpArgs false
set_option maxRecDepth 100000
set_option maxHeartbeats 64000000
namespace Go.Proofs.YtmfejjlmflgnbaaGreatDoor.Sc
open RowKit PA YtmfejjlmflgnbaaGreatDoorW.PrintWords YtmfejjlmflgnbaaGreatDoorW.PrintLast YtmfejjlmflgnbaaGreatDoorW.PrintMore Sp Tr Tok
open Go.Lib (hid)
abbrev r1:SR:=rowW ⟨#[79,83]⟩ ⟨#[83,84,65,84,85,83]⟩ 2 ⟨#[69,88,84,69,78,68,69,68]⟩ [⟨#[83,84,65,78,68,65,82,68]⟩,⟨#[69,88,84,69,78,68,69,68]⟩]
abbrev r2:SR:=rowF ⟨#[79,83]⟩ ⟨#[83,84,65,82,84,85,80,72,79,79,75]⟩ ⟨#[70,65,76,83,69]⟩
abbrev r3:SR:=rowF ⟨#[79,83]⟩ ⟨#[69,82,82,79,82,72,79,79,75]⟩ ⟨#[70,65,76,83,69]⟩
abbrev r4:SR:=rowF ⟨#[79,83]⟩ ⟨#[83,72,85,84,68,79,87,78,72,79,79,75]⟩ ⟨#[70,65,76,83,69]⟩
abbrev r5:SR:=rowF ⟨#[79,83]⟩ ⟨#[80,82,69,84,65,83,75,72,79,79,75]⟩ ⟨#[70,65,76,83,69]⟩
abbrev r6:SR:=rowF ⟨#[79,83]⟩ ⟨#[80,79,83,84,84,65,83,75,72,79,79,75]⟩ ⟨#[70,65,76,83,69]⟩
abbrev r7:SR:=rowF ⟨#[79,83]⟩ ⟨#[85,83,69,71,69,84,83,69,82,86,73,67,69,73,68]⟩ ⟨#[70,65,76,83,69]⟩
abbrev r8:SR:=rowF ⟨#[79,83]⟩ ⟨#[85,83,69,80,65,82,65,77,69,84,69,82,65,67,67,69,83,83]⟩ ⟨#[70,65,76,83,69]⟩
abbrev r9:SR:=rowF ⟨#[79,83]⟩ ⟨#[85,83,69,82,69,83,83,67,72,69,68,85,76,69,82]⟩ ⟨#[84,82,85,69]⟩
abbrev r10:SR:=rowN ⟨#[84,65,83,75]⟩ ⟨#[80,82,73,79,82,73,84,89]⟩ 0 63
abbrev r12:SR:=rowW ⟨#[84,65,83,75]⟩ ⟨#[83,67,72,69,68,85,76,69]⟩ 1 ⟨#[]⟩ [⟨#[78,79,78]⟩,⟨#[70,85,76,76]⟩]
abbrev r13:SR:=rowN ⟨#[84,65,83,75]⟩ ⟨#[65,67,84,73,86,65,84,73,79,78]⟩ 1 255
abbrev r15:SR:=rowW ⟨#[84,65,83,75]⟩ ⟨#[65,85,84,79,83,84,65,82,84]⟩ 1 ⟨#[]⟩ [⟨#[84,82,85,69]⟩,⟨#[70,65,76,83,69]⟩]
abbrev r17:SR:=rowP ⟨#[84,65,83,75]⟩ ⟨#[65,80,80,77,79,68,69]⟩ 3
abbrev r20:SR:=rowP ⟨#[84,65,83,75]⟩ ⟨#[82,69,83,79,85,82,67,69]⟩ 3
abbrev r21:SR:=rowP ⟨#[84,65,83,75]⟩ ⟨#[69,86,69,78,84]⟩ 3
abbrev r22:SR:=rowP ⟨#[84,65,83,75]⟩ ⟨#[77,69,83,83,65,71,69]⟩ 3
abbrev r23:SR:=rowN ⟨#[73,83,82]⟩ ⟨#[67,65,84,69,71,79,82,89]⟩ 1 2
abbrev r24:SR:=rowN ⟨#[73,83,82]⟩ ⟨#[80,82,73,79,82,73,84,89]⟩ 64 127
abbrev r25:SR:=rowP ⟨#[73,83,82]⟩ ⟨#[82,69,83,79,85,82,67,69]⟩ 3
abbrev r26:SR:=rowP ⟨#[73,83,82]⟩ ⟨#[77,69,83,83,65,71,69]⟩ 3
abbrev r28:SR:=rowW ⟨#[82,69,83,79,85,82,67,69]⟩ ⟨#[82,69,83,79,85,82,67,69,80,82,79,80,69,82,84,89]⟩ 1 ⟨#[]⟩ [⟨#[83,84,65,78,68,65,82,68]⟩,⟨#[76,73,78,75,69,68]⟩,⟨#[73,78,84,69,82,78,65,76]⟩]
abbrev r30:SR:=rowP ⟨#[82,69,83,79,85,82,67,69]⟩ ⟨#[76,73,78,75,69,68,82,69,83,79,85,82,67,69]⟩ 1
abbrev r33:SR:=rowE
abbrev r34:SR:=rowN ⟨#[67,79,85,78,84,69,82]⟩ ⟨#[77,65,88,65,76,76,79,87,69,68,86,65,76,85,69]⟩ 1 2147483647
abbrev r35:SR:=rowN ⟨#[67,79,85,78,84,69,82]⟩ ⟨#[84,73,67,75,83,80,69,82,66,65,83,69]⟩ 1 2147483647
abbrev r36:SR:=rowN ⟨#[67,79,85,78,84,69,82]⟩ ⟨#[77,73,78,67,89,67,76,69]⟩ 1 2147483647
abbrev r37:SR:=rowP ⟨#[65,76,65,82,77]⟩ ⟨#[67,79,85,78,84,69,82]⟩ 1
abbrev r39:SR:=rowW ⟨#[65,76,65,82,77]⟩ ⟨#[65,67,84,73,79,78]⟩ 1 ⟨#[]⟩ [⟨#[65,67,84,73,86,65,84,69,84,65,83,75]⟩,⟨#[83,69,84,69,86,69,78,84]⟩,⟨#[65,76,65,82,77,67,65,76,76,66,65,67,75]⟩]
abbrev r41:SR:=rowP ⟨#[65,76,65,82,77]⟩ ⟨#[84,65,83,75]⟩ 1
abbrev r44:SR:=rowP ⟨#[65,76,65,82,77]⟩ ⟨#[84,65,83,75]⟩ 1
abbrev r45:SR:=rowP ⟨#[65,76,65,82,77]⟩ ⟨#[69,86,69,78,84]⟩ 1
abbrev r48:SR:=rowS ⟨#[65,76,65,82,77]⟩ ⟨#[65,76,65,82,77,67,65,76,76,66,65,67,75,78,65,77,69]⟩ []
abbrev r52:SR:=rowW ⟨#[65,76,65,82,77]⟩ ⟨#[65,85,84,79,83,84,65,82,84]⟩ 1 ⟨#[]⟩ [⟨#[84,82,85,69]⟩,⟨#[70,65,76,83,69]⟩]
abbrev r54:SR:=rowN ⟨#[65,76,65,82,77]⟩ ⟨#[65,76,65,82,77,84,73,77,69]⟩ 0 2147483647
abbrev r55:SR:=rowN ⟨#[65,76,65,82,77]⟩ ⟨#[67,89,67,76,69,84,73,77,69]⟩ 0 2147483647
abbrev r56:SR:=rowP ⟨#[65,76,65,82,77]⟩ ⟨#[65,80,80,77,79,68,69]⟩ 3
abbrev r60:SR:=rowW ⟨#[77,69,83,83,65,71,69]⟩ ⟨#[77,69,83,83,65,71,69,80,82,79,80,69,82,84,89]⟩ 1 ⟨#[]⟩ [⟨#[83,69,78,68,95,83,84,65,84,73,67,95,73,78,84,69,82,78,65,76]⟩,⟨#[82,69,67,69,73,86,69,95,85,78,81,85,69,85,69,68,95,73,78,84,69,82,78,65,76]⟩,⟨#[82,69,67,69,73,86,69,95,81,85,69,85,69,68,95,73,78,84,69,82,78,65,76]⟩]
abbrev r63:SR:=rowS ⟨#[77,69,83,83,65,71,69]⟩ ⟨#[67,68,65,84,65,84,89,80,69]⟩ [⟨#[117,105,110,116,56]⟩,⟨#[117,105,110,116,49,54]⟩,⟨#[117,105,110,116,51,50]⟩,⟨#[117,105,110,116,54,52]⟩]
abbrev r66:SR:=rowP ⟨#[77,69,83,83,65,71,69]⟩ ⟨#[83,69,78,68,73,78,71,77,69,83,83,65,71,69]⟩ 1
abbrev r67:SR:=rowI
abbrev r70:SR:=rowP ⟨#[77,69,83,83,65,71,69]⟩ ⟨#[83,69,78,68,73,78,71,77,69,83,83,65,71,69]⟩ 1
abbrev r71:SR:=rowN ⟨#[77,69,83,83,65,71,69]⟩ ⟨#[81,85,69,85,69,83,73,90,69]⟩ 1 16
abbrev r75:SR:=rowW ⟨#[77,69,83,83,65,71,69]⟩ ⟨#[78,79,84,73,70,73,67,65,84,73,79,78]⟩ 2 ⟨#[78,79,78,69]⟩ [⟨#[78,79,78,69]⟩,⟨#[65,67,84,73,86,65,84,69,84,65,83,75]⟩,⟨#[83,69,84,69,86,69,78,84]⟩,⟨#[67,79,77,67,65,76,76,66,65,67,75]⟩,⟨#[70,76,65,71]⟩]
abbrev r77:SR:=rowP ⟨#[77,69,83,83,65,71,69]⟩ ⟨#[84,65,83,75]⟩ 1
abbrev r80:SR:=rowP ⟨#[77,69,83,83,65,71,69]⟩ ⟨#[84,65,83,75]⟩ 1
abbrev r81:SR:=rowP ⟨#[77,69,83,83,65,71,69]⟩ ⟨#[69,86,69,78,84]⟩ 1
abbrev r84:SR:=rowS ⟨#[77,69,83,83,65,71,69]⟩ ⟨#[67,79,77,67,65,76,76,66,65,67,75,78,65,77,69]⟩ []
abbrev r87:SR:=rowS ⟨#[77,69,83,83,65,71,69]⟩ ⟨#[70,76,65,71,78,65,77,69]⟩ []
abbrev XSS:List (List (SR × Nat)):=[[(r1,1000),(r2,1002),(r3,1003),(r4,1004),(r5,1005),(r6,1006),(r7,1007),(r8,1008),(r9,1009),(r10,1010),(r12,1011),(r13,1013),(r15,1014)],([(r17,1017)].map (setT ⟨#[65,85,84,79,83,84,65,82,84]⟩ ⟨#[84,82,85,69]⟩)),[(r20,1020),(r21,1021),(r22,1022),(r23,1023),(r24,1024),(r25,1025),(r26,1026),(r28,1027)],([(r30,1030)].map (setT ⟨#[82,69,83,79,85,82,67,69,80,82,79,80,69,82,84,89]⟩ ⟨#[76,73,78,75,69,68]⟩)),[(r33,1033),(r34,1034),(r35,1035),(r36,1036),(r37,1037),(r39,1038)],([(r41,1041)].map (setT ⟨#[65,67,84,73,79,78]⟩ ⟨#[65,67,84,73,86,65,84,69,84,65,83,75]⟩)),([(r44,1044),(r45,1045)].map (setT ⟨#[65,67,84,73,79,78]⟩ ⟨#[83,69,84,69,86,69,78,84]⟩)),([(r48,1048)].map (setT ⟨#[65,67,84,73,79,78]⟩ ⟨#[65,76,65,82,77,67,65,76,76,66,65,67,75]⟩)),[(r52,1051)],([(r54,1054),(r55,1055),(r56,1056)].map (setT ⟨#[65,85,84,79,83,84,65,82,84]⟩ ⟨#[84,82,85,69]⟩)),[(r60,1059)],([(r63,1062)].map (setT ⟨#[77,69,83,83,65,71,69,80,82,79,80,69,82,84,89]⟩ ⟨#[83,69,78,68,95,83,84,65,84,73,67,95,73,78,84,69,82,78,65,76]⟩)),([(r66,1066),(r67,1067)].map (setT ⟨#[77,69,83,83,65,71,69,80,82,79,80,69,82,84,89]⟩ ⟨#[82,69,67,69,73,86,69,95,85,78,81,85,69,85,69,68,95,73,78,84,69,82,78,65,76]⟩)),([(r70,1070),(r71,1071)].map (setT ⟨#[77,69,83,83,65,71,69,80,82,79,80,69,82,84,89]⟩ ⟨#[82,69,67,69,73,86,69,95,81,85,69,85,69,68,95,73,78,84,69,82,78,65,76]⟩)),[(r75,1074)],([(r77,1077)].map (setT ⟨#[78,79,84,73,70,73,67,65,84,73,79,78]⟩ ⟨#[65,67,84,73,86,65,84,69,84,65,83,75]⟩)),([(r80,1080),(r81,1081)].map (setT ⟨#[78,79,84,73,70,73,67,65,84,73,79,78]⟩ ⟨#[83,69,84,69,86,69,78,84]⟩)),([(r84,1084)].map (setT ⟨#[78,79,84,73,70,73,67,65,84,73,79,78]⟩ ⟨#[67,79,77,67,65,76,76,66,65,67,75]⟩)),([(r87,1087)].map (setT ⟨#[78,79,84,73,70,73,67,65,84,73,79,78]⟩ ⟨#[70,76,65,71]⟩))]
theorem xss_tab:XSS.flatten.map Prod.fst=tab:=by kernel_rfl
def KD:List RK:=[
 .wd [⟨#[83,84,65,78,68,65,82,68]⟩,⟨#[69,88,84,69,78,68,69,68]⟩] 1000,
 .ro r1 1000,
 .ro r2 1002,
 .ro r3 1003,
 .ro r4 1004,
 .ro r5 1005,
 .ro r6 1006,
 .ro r7 1007,
 .ro r8 1008,
 .ro r9 1009,
 .ro r10 1010,
 .wd [⟨#[78,79,78]⟩,⟨#[70,85,76,76]⟩] 1011,
 .ro r12 1011,
 .ro r13 1013,
 .wd [⟨#[84,82,85,69]⟩,⟨#[70,65,76,83,69]⟩] 1014,
 .ro r15 1014,
 .rs [(r1,1000),(r2,1002),(r3,1003),(r4,1004),(r5,1005),(r6,1006),(r7,1007),(r8,1008),(r9,1009),(r10,1010),(r12,1011),(r13,1013),(r15,1014)] 16,
 .ro r17 1017,
 .rs [(r17,1017)] 18,
 .rs ([(r17,1017)].map (setT ⟨#[65,85,84,79,83,84,65,82,84]⟩ ⟨#[84,82,85,69]⟩)) 18,
 .ro r20 1020,
 .ro r21 1021,
 .ro r22 1022,
 .ro r23 1023,
 .ro r24 1024,
 .ro r25 1025,
 .ro r26 1026,
 .wd [⟨#[83,84,65,78,68,65,82,68]⟩,⟨#[76,73,78,75,69,68]⟩,⟨#[73,78,84,69,82,78,65,76]⟩] 1027,
 .ro r28 1027,
 .rs [(r20,1020),(r21,1021),(r22,1022),(r23,1023),(r24,1024),(r25,1025),(r26,1026),(r28,1027)] 29,
 .ro r30 1030,
 .rs [(r30,1030)] 31,
 .rs ([(r30,1030)].map (setT ⟨#[82,69,83,79,85,82,67,69,80,82,79,80,69,82,84,89]⟩ ⟨#[76,73,78,75,69,68]⟩)) 31,
 .ro r33 1033,
 .ro r34 1034,
 .ro r35 1035,
 .ro r36 1036,
 .ro r37 1037,
 .wd [⟨#[65,67,84,73,86,65,84,69,84,65,83,75]⟩,⟨#[83,69,84,69,86,69,78,84]⟩,⟨#[65,76,65,82,77,67,65,76,76,66,65,67,75]⟩] 1038,
 .ro r39 1038,
 .rs [(r33,1033),(r34,1034),(r35,1035),(r36,1036),(r37,1037),(r39,1038)] 40,
 .ro r41 1041,
 .rs [(r41,1041)] 42,
 .rs ([(r41,1041)].map (setT ⟨#[65,67,84,73,79,78]⟩ ⟨#[65,67,84,73,86,65,84,69,84,65,83,75]⟩)) 42,
 .ro r44 1044,
 .ro r45 1045,
 .rs [(r44,1044),(r45,1045)] 46,
 .rs ([(r44,1044),(r45,1045)].map (setT ⟨#[65,67,84,73,79,78]⟩ ⟨#[83,69,84,69,86,69,78,84]⟩)) 46,
 .ro r48 1048,
 .rs [(r48,1048)] 49,
 .rs ([(r48,1048)].map (setT ⟨#[65,67,84,73,79,78]⟩ ⟨#[65,76,65,82,77,67,65,76,76,66,65,67,75]⟩)) 49,
 .wd [⟨#[84,82,85,69]⟩,⟨#[70,65,76,83,69]⟩] 1051,
 .ro r52 1051,
 .rs [(r52,1051)] 53,
 .ro r54 1054,
 .ro r55 1055,
 .ro r56 1056,
 .rs [(r54,1054),(r55,1055),(r56,1056)] 57,
 .rs ([(r54,1054),(r55,1055),(r56,1056)].map (setT ⟨#[65,85,84,79,83,84,65,82,84]⟩ ⟨#[84,82,85,69]⟩)) 57,
 .wd [⟨#[83,69,78,68,95,83,84,65,84,73,67,95,73,78,84,69,82,78,65,76]⟩,⟨#[82,69,67,69,73,86,69,95,85,78,81,85,69,85,69,68,95,73,78,84,69,82,78,65,76]⟩,⟨#[82,69,67,69,73,86,69,95,81,85,69,85,69,68,95,73,78,84,69,82,78,65,76]⟩] 1059,
 .ro r60 1059,
 .rs [(r60,1059)] 61,
 .wd [⟨#[117,105,110,116,56]⟩,⟨#[117,105,110,116,49,54]⟩,⟨#[117,105,110,116,51,50]⟩,⟨#[117,105,110,116,54,52]⟩] 1062,
 .ro r63 1062,
 .rs [(r63,1062)] 64,
 .rs ([(r63,1062)].map (setT ⟨#[77,69,83,83,65,71,69,80,82,79,80,69,82,84,89]⟩ ⟨#[83,69,78,68,95,83,84,65,84,73,67,95,73,78,84,69,82,78,65,76]⟩)) 64,
 .ro r66 1066,
 .ro r67 1067,
 .rs [(r66,1066),(r67,1067)] 68,
 .rs ([(r66,1066),(r67,1067)].map (setT ⟨#[77,69,83,83,65,71,69,80,82,79,80,69,82,84,89]⟩ ⟨#[82,69,67,69,73,86,69,95,85,78,81,85,69,85,69,68,95,73,78,84,69,82,78,65,76]⟩)) 68,
 .ro r70 1070,
 .ro r71 1071,
 .rs [(r70,1070),(r71,1071)] 72,
 .rs ([(r70,1070),(r71,1071)].map (setT ⟨#[77,69,83,83,65,71,69,80,82,79,80,69,82,84,89]⟩ ⟨#[82,69,67,69,73,86,69,95,81,85,69,85,69,68,95,73,78,84,69,82,78,65,76]⟩)) 72,
 .wd [⟨#[78,79,78,69]⟩,⟨#[65,67,84,73,86,65,84,69,84,65,83,75]⟩,⟨#[83,69,84,69,86,69,78,84]⟩,⟨#[67,79,77,67,65,76,76,66,65,67,75]⟩,⟨#[70,76,65,71]⟩] 1074,
 .ro r75 1074,
 .rs [(r75,1074)] 76,
 .ro r77 1077,
 .rs [(r77,1077)] 78,
 .rs ([(r77,1077)].map (setT ⟨#[78,79,84,73,70,73,67,65,84,73,79,78]⟩ ⟨#[65,67,84,73,86,65,84,69,84,65,83,75]⟩)) 78,
 .ro r80 1080,
 .ro r81 1081,
 .rs [(r80,1080),(r81,1081)] 82,
 .rs ([(r80,1080),(r81,1081)].map (setT ⟨#[78,79,84,73,70,73,67,65,84,73,79,78]⟩ ⟨#[83,69,84,69,86,69,78,84]⟩)) 82,
 .ro r84 1084,
 .rs [(r84,1084)] 85,
 .rs ([(r84,1084)].map (setT ⟨#[78,79,84,73,70,73,67,65,84,73,79,78]⟩ ⟨#[67,79,77,67,65,76,76,66,65,67,75]⟩)) 85,
 .ro r87 1087,
 .rs [(r87,1087)] 88,
 .rs ([(r87,1087)].map (setT ⟨#[78,79,84,73,70,73,67,65,84,73,79,78]⟩ ⟨#[70,76,65,71]⟩)) 88,
 .al XSS,
 .fin XSS.flatten,
 .fin XSS.flatten]
def kd (i:Nat):RK:=KD.getD i (.fin [])
def CON:List Nat:=[1000,1000,1000,1000,1000,1000,1000,1000,1000,1000,1000,1000,1000,1000,1000,1000,90,1000,19,90,1000,1000,1000,1000,1000,1000,1000,1000,1000,90,1000,32,90,1000,1000,1000,1000,1000,1000,1000,90,1000,43,90,1000,1000,47,90,1000,50,90,1000,1000,90,1000,1000,1000,58,90,1000,1000,90,1000,1000,65,90,1000,1000,69,90,1000,1000,73,90,1000,1000,90,1000,79,90,1000,1000,83,90,1000,86,90,1000,89,90,91,92,1000]
def con (i:Nat):Nat:=CON.getD i 1000
def okR:RK->Bool
 | .al _=>false
 | .fin _=>false
 | .rs _ t=>decide (t<999)
 | .wd _ t=>decide (1000<=t)
 | .ro _ t=>decide (1000<=t)
theorem kd_ok:((List.range 90).all fun i=>okR (kd i))=true:=by kernel_rfl
theorem kd_small {i:Nat} (h:i<90):tagOf (kd i)≠999/\(∀ xss,kd i≠.al xss)/\∀ xs,kd i≠.fin xs:=by
 have h1:=List.all_eq_true.1 kd_ok i (List.mem_range.2 h);cases hk:kd i with
 | wd l t=>rw [hk] at h1;have h2:1000<=t:=of_decide_eq_true h1;exact ⟨by show t≠999;omega,fun _=>by simp,fun _=>by simp⟩
 | ro x t=>rw [hk] at h1;have h2:1000<=t:=of_decide_eq_true h1;exact ⟨by show t≠999;omega,fun _=>by simp,fun _=>by simp⟩
 | rs xs t=>rw [hk] at h1;have h2:t<999:=of_decide_eq_true h1;exact ⟨by show t≠999;omega,fun _=>by simp,fun _=>by simp⟩
 | al xss=>rw [hk] at h1;cases h1
 | fin xs=>rw [hk] at h1;cases h1
theorem kd_ge {i:Nat} (h:i<90) {x:SR} {s:Nat} (hk:kd i=.ro x s):1000<=s:=by
 have h1:=List.all_eq_true.1 kd_ok i (List.mem_range.2 h);rw [hk] at h1;exact of_decide_eq_true h1
def roOf:RK->SR × Nat
 | .ro x t=>(x,t)
 | _=>(zRow,0)
def isRo:RK->Bool
 | .ro _ _=>true
 | _=>false
def Nxt (B:Nat) (w0:World) (p1 p2:Nat) (l:Array Bool) (i:Nat):Act->World->Prop:=fun a' w'=>∃ own',IR kd con B w0 p1 p2 (l.setIfInBounds i true) a' w' own'
def rowEc:Array Value:=#[.string ⟨#[69,86,69,78,84]⟩,.string ⟨#[]⟩,.string ⟨#[]⟩,.string ⟨#[77,65,83,75]⟩,.int .i64 1,.slice none 0 0,.int .u32 1,.int .u32 4294967295,.bool true,.int .i64 2,.string sAuto]
def rowIc:Array Value:=#[.string ⟨#[77,69,83,83,65,71,69]⟩,.string ⟨#[]⟩,.string ⟨#[]⟩,.string ⟨#[73,78,73,84,73,65,76,86,65,76,85,69]⟩,.int .i64 1,.slice none 0 0,.int .u32 0,.int .u32 4294967295,.bool false,.int .i64 2,.string ⟨#[48]⟩]
section
variable {Q:Exit->Act->World->Prop} {B:Nat} {w0:World} {p1 p2:Nat} {l:Array Bool} {a:Act} {w:World} {own:Nat->Nat} {i:Nat}
theorem ir_below (h:IR kd con B w0 p1 p2 l a w own):B<=w.heap.size:=Nat.le_trans h.bas h.bel.size
theorem put_new (h:IR kd con B w0 p1 p2 l a w own) (hi:i<93) (hrd:i ∈ Region.ready .any OPS l) {w':World} {v:Value} (hB:Below w.heap.size w w') (t:Nat) (hnew:Gd (ownX own w.heap.size t) B w' (kd i) v):Nxt B w0 p1 p2 l i (a.put (some (sl i)) v) w' :=
 ⟨ownX own w.heap.size t,h.put hi (t0:=999) (by decide) hnew (fun b hb=>ownX_lt hb) (fun b hb _=>hB.block b hb) (h.bel.trans (hB.mono (ir_below h))) hrd (fun i' h1 _ _=>kd_small h1) rfl rfl⟩
theorem get_ (h:IR kd con B w0 p1 p2 l a w own) (hrd:i ∈ Region.ready .any OPS l) {j:Nat} (hj:j<93) (hd:depB OPS i j=true) (hc:con j=i∨93<=con j):Gd own B w (kd j) (a.tmps.getD (sl j) undef) :=
 h.gd j hj (ready_dep hrd hd) (fun hlt=>by
  rcases hc with e | e
  ·rw [e];exact (ready_open hrd).2
  ·omega)
theorem words_on {w':World} {v:Value} {ws:List ByteArray} {s:Nat} (h:Kd.R Kd.string 9 w B (fun k=>own k=s) v ws) (hB:Below w.heap.size w w') (t:Nat):Kd.R Kd.string 9 w' B (fun k=>ownX own w.heap.size t k=s) v ws :=
 Kd.R_mono (Kd.R_move (Kd.R_bound h) (fun b hb=>hB.block b hb.2.2.1)) (fun b hb=>by rw [ownX_lt hb.2.2.1];exact hb.1)
theorem words_at {B:Nat} {ok:Nat->Prop} {g:Nat} {ws:List ByteArray} (hg:w.heap[g]?=some (.cells (encs Value.string ws).toArray 9 (0,0))) (hB:B<=g) (hok:ok g) (hm:ws.length<=1000):Kd.R Kd.string 9 w B ok (.slice (some ⟨g,0,none⟩) ws.length ws.length) ws:=by
 refine Kd.R_of_own ⟨by simp [encs],.inr ⟨g,ws.length,_,rfl,hB,hg,Nat.le_refl _,by unfold maxLen;omega,by simp [encs],List.take_of_length_le (by simp [encs])⟩⟩ (fun k hk=>?_)
 have:g=k:=by simpa [Value.ownBlock] using hk
 subst this;exact hok
theorem step_wd (hi:i<93) (ws:List ByteArray) (hm:ws.length<=1000) {op:Op} (ho:(OPS[i]?).map (fun o=>(o.op,o.dst,o.guard))=some (op,some (sl i),none)) (hk:kd i=.wd ws (1000 + i))
  (hrun:∀ o:Oper,o.op=op->(execOp a.eval o).run Tryz.prog w=.ok (.value (.slice (some ⟨w.heap.size,0,none⟩) ws.length ws.length)) (w.alloc (.cells (encs Value.string ws).toArray 9)))
  (h:IR kd con B w0 p1 p2 l a w own) (hrd:i ∈ Region.ready .any OPS l):wpOp Tryz.prog OPS Q i (Nxt B w0 p1 p2 l i) a w :=
 step_value ho hrun (put_new h hi hrd (alloc_below _ _) (1000 + i) (by
  rw [hk]
  exact words_lit w ws B _ (ir_below h) (ownX_ge (Nat.le_refl _)) hm))
theorem step_num (hi:i<93) (o n:ByteArray) (lo hi':Int) {ts:Array TypeId} (ho:(OPS[i]?).map (fun o=>(o.op,o.dst,o.guard))=some (.call { callee:=.value (.func 56),args:=#[.const (.string o),.const (.string n),.const (.int .u32 lo),.const (.int .u32 hi')],argTypes:=ts },some (sl i),none)) (hk:kd i=.ro (rowN o n lo hi') (1000 + i))
  (h:IR kd con B w0 p1 p2 l a w own) (hrd:i ∈ Region.ready .any OPS l):wpOp Tryz.prog OPS Q i (Nxt B w0 p1 p2 l i) a w :=
 step_call ho Tryz.func56 rfl rfl (args:=#[.string o,.string n,.int .u32 lo,.int .u32 hi']) (by simp [Act.eval]) ((number_calls o n lo hi' w).mono (by
  rintro e w' ⟨rfl,hB⟩
  refine ⟨_,rfl,put_new h hi hrd hB 0 ?_⟩
  rw [hk]
  exact ⟨_,rfl,kRow_mkM w' B _ (rowN o n lo hi') (Kd.R_nil _ _ _ _ _)⟩))
theorem step_ref (hi:i<93) (o n:ByteArray) (tm:Int) {ts:Array TypeId} (ho:(OPS[i]?).map (fun o=>(o.op,o.dst,o.guard))=some (.call { callee:=.value (.func 61),args:=#[.const (.string o),.const (.string n),.const (.int .i64 tm)],argTypes:=ts },some (sl i),none)) (hk:kd i=.ro (rowP o n tm) (1000 + i))
  (h:IR kd con B w0 p1 p2 l a w own) (hrd:i ∈ Region.ready .any OPS l):wpOp Tryz.prog OPS Q i (Nxt B w0 p1 p2 l i) a w :=
 step_call ho Tryz.func61 rfl rfl (args:=#[.string o,.string n,.int .i64 tm]) (by simp [Act.eval]) ((ref_calls o n tm w).mono (by
  rintro e w' ⟨rfl,hB⟩
  refine ⟨_,rfl,put_new h hi hrd hB 0 ?_⟩
  rw [hk]
  exact ⟨_,rfl,kRow_mkM w' B _ (rowP o n tm) (Kd.R_nil _ _ _ _ _)⟩))
theorem step_text (hi:i<93) (o n:ByteArray) {ts:Array TypeId} (ho:(OPS[i]?).map (fun o=>(o.op,o.dst,o.guard))=some (.call { callee:=.value (.func 62),args:=#[.const (.string o),.const (.string n),.const (.slice none 0 0)],argTypes:=ts },some (sl i),none)) (hk:kd i=.ro (rowS o n []) (1000 + i))
  (h:IR kd con B w0 p1 p2 l a w own) (hrd:i ∈ Region.ready .any OPS l):wpOp Tryz.prog OPS Q i (Nxt B w0 p1 p2 l i) a w :=
 step_call ho Tryz.func62 rfl rfl (args:=#[.string o,.string n,.slice none 0 0]) (by simp [Act.eval]) ((text_calls o n none 0 0 w).mono (by
  rintro e w' ⟨rfl,hB⟩
  refine ⟨_,rfl,put_new h hi hrd hB 0 ?_⟩
  rw [hk]
  exact ⟨_,rfl,kRow_mkM w' B _ (rowS o n []) (Kd.R_nil _ _ _ _ _)⟩))
theorem step_textw (hi:i<93) {j s:Nat} (o n:ByteArray) (ws:List ByteArray) (hj:j<93) {ts:Array TypeId} (ho:(OPS[i]?).map (fun o=>(o.op,o.dst,o.guard))=some (.call { callee:=.value (.func 62),args:=#[.const (.string o),.const (.string n),.tmp (sl j)],argTypes:=ts },some (sl i),none))
  (hc:93<=con j) (hd:depB OPS i j=true) {s:Nat} (hk:kd i=.ro (rowS o n ws) s) (hkj:kd j=.wd ws s)
  (h:IR kd con B w0 p1 p2 l a w own) (hrd:i ∈ Region.ready .any OPS l):wpOp Tryz.prog OPS Q i (Nxt B w0 p1 p2 l i) a w:=by
 have hg:=get_ h hrd hj hd (.inr hc);rw [hkj] at hg;obtain ⟨A,c,hv⟩:=RForm (show Kd.R Kd.string 9 w B (fun k=>own k=s) _ ws from hg);rw [hv] at hg
 exact step_call ho Tryz.func62 rfl rfl (args:=#[.string o,.string n,.slice A ws.length c]) (by simp [Act.eval,hv]) ((text_calls o n A ws.length c w).mono (by
  rintro e w' ⟨rfl,hB⟩
  refine ⟨_,rfl,put_new h hi hrd hB 0 ?_⟩
  rw [hk]
  exact ⟨_,rfl,kRow_mkM w' B _ (rowS o n ws) (words_on hg hB 0)⟩))
theorem step_word (hi:i<93) {j:Nat} (o n:ByteArray) (tm:Int) (d:ByteArray) (ws:List ByteArray) (hj:j<93) {ts:Array TypeId} (ho:(OPS[i]?).map (fun o=>(o.op,o.dst,o.guard))=some (.call { callee:=.value (.func 58),args:=#[.const (.string o),.const (.string n),.const (.int .i64 tm),.const (.string d),.tmp (sl j)],argTypes:=ts },some (sl i),none))
  (hc:93<=con j) (hd:depB OPS i j=true) {s:Nat} (hk:kd i=.ro (rowW o n tm d ws) s) (hkj:kd j=.wd ws s)
  (h:IR kd con B w0 p1 p2 l a w own) (hrd:i ∈ Region.ready .any OPS l):wpOp Tryz.prog OPS Q i (Nxt B w0 p1 p2 l i) a w:=by
 have hg:=get_ h hrd hj hd (.inr hc);rw [hkj] at hg;obtain ⟨A,c,hv⟩:=RForm (show Kd.R Kd.string 9 w B (fun k=>own k=s) _ ws from hg);rw [hv] at hg
 exact step_call ho Tryz.func58 rfl rfl (args:=#[.string o,.string n,.int .i64 tm,.string d,.slice A ws.length c]) (by simp [Act.eval,hv]) ((word_calls o n d tm A ws.length c w).mono (by
  rintro e w' ⟨rfl,hB⟩
  refine ⟨_,rfl,put_new h hi hrd hB 0 ?_⟩
  rw [hk]
  exact ⟨_,rfl,kRow_mkM w' B _ (rowW o n tm d ws) (words_on hg hB 0)⟩))
theorem step_flag (hi:i<93) (o n d:ByteArray) {ts:Array TypeId} (ho:(OPS[i]?).map (fun o=>(o.op,o.dst,o.guard))=some (.call { callee:=.value (.func 59),args:=#[.const (.string o),.const (.string n),.const (.string d)],argTypes:=ts },some (sl i),none)) (hk:kd i=.ro (rowF o n d) (1000 + i))
  (h:IR kd con B w0 p1 p2 l a w own) (hrd:i ∈ Region.ready .any OPS l):wpOp Tryz.prog OPS Q i (Nxt B w0 p1 p2 l i) a w :=
 step_call ho Tryz.func59 rfl rfl (args:=#[.string o,.string n,.string d]) (by simp [Act.eval]) ((flag_calls o n d w).mono (by
  rintro e w' ⟨⟨g,rfl,hg,hE⟩,hB⟩
  refine ⟨_,rfl,put_new h hi hrd hB (1000 + i) ?_⟩
  rw [hk]
  exact ⟨_,rfl,kRow_mkM w' B _ (rowF o n d) (words_at (ws:=[⟨#[84,82,85,69]⟩,⟨#[70,65,76,83,69]⟩]) hE (Nat.le_trans (ir_below h) hg) (ownX_ge hg) (by decide))⟩))
theorem pick_rows:∀ (js:List Nat) (ok:Nat->Prop),(∀ j ∈ js,∃ cs:List Value,a.tmps.getD (sl j) undef=.agg cs.toArray/\(kT own).M w B ok (roOf (kd j)) cs)->(∀ s ∈ js.map sl,(a.tmps.getD s undef).cells.size=11)/\Reps ((kT own).M w B ok) 11 (js.map (fun j=>roOf (kd j))) ((js.map sl).map (fun s=>(a.tmps.getD s undef).cells.toList)).flatten
 | [],ok,_=>⟨(fun s hs=>by cases hs),Reps.none _ _⟩
 | j :: js,ok,hj=>by
  obtain ⟨h1,h2⟩:=pick_rows js ok (fun j' h'=>hj j' (List.mem_cons_of_mem _ h'));obtain ⟨cs,hv,hM⟩:=hj j List.mem_cons_self;have hcl:cs.length=11:=(kT own).K_len ((kT own).K_of_M hM);have hcc:(a.tmps.getD (sl j) undef).cells.toList=cs:=by rw [hv];rfl
  refine ⟨fun s hs=>?_,?_⟩
  ·rcases List.mem_cons.1 hs with e | e
   ·rw [e,<- Array.length_toList,hcc,hcl]
   ·exact h1 s e
  ·rw [List.map_cons,List.map_cons,List.map_cons,List.flatten_cons,hcc]
   exact reps_cons h2 hM hcl
theorem step_rows (hi:i<93) (js:List Nat) (h0:0<(js.map sl).length) (hn:(js.map sl).length<=100) (ho:(OPS[i]?).map (fun o=>(o.op,o.dst,o.guard))=some (.buildSlice 53 (js.map sl).length ((js.map sl).zipIdx.map fun p=>(p.2,Operand.tmp p.1)).toArray,some (sl i),none))
  (hjs:(js.all fun j=>isRo (kd j)&&depB OPS i j&&decide (93<=con j)&&decide (j<90))=true) (hk:kd i=.rs (js.map fun j=>roOf (kd j)) i)
  (h:IR kd con B w0 p1 p2 l a w own) (hrd:i ∈ Region.ready .any OPS l):wpOp Tryz.prog OPS Q i (Nxt B w0 p1 p2 l i) a w:=by
 have hall:∀ j ∈ js,∃ cs:List Value,a.tmps.getD (sl j) undef=.agg cs.toArray/\(kT own).M w B (fun k=>1000<=own k) (roOf (kd j)) cs:=fun j hj=>by
  have hb:=List.all_eq_true.1 hjs j hj;simp only [Bool.and_eq_true,decide_eq_true_eq] at hb;obtain ⟨⟨⟨b1,b2⟩,b3⟩,b4⟩:=hb;have hg:=get_ h hrd (by omega) b2 (.inr b3);cases hkj:kd j with
  | ro x s =>
   rw [hkj] at hg;obtain ⟨cs,hv,hM⟩:=hg;have h9:=kd_ge b4 hkj;exact ⟨cs,hv,kRow.M_mono (fun k hk1=>⟨by show 1000<=own k;rw [show own k=s from hk1];exact h9,hk1⟩) hM⟩
  | _=>rw [hkj] at b1;cases b1
 obtain ⟨hl,hreps⟩:=pick_rows (a:=a) js _ hall;have hlen:(js.map fun j=>roOf (kd j)).length=(js.map sl).length:=by simp
 refine step_value ho (fun o hop=>run_vals (T:=53) (e:=60) (sz:=11) Tryz.underlying53 infoRow rfl (by decide) (by decide) (js.map sl) hop hl h0 hn) (put_new h hi hrd (alloc_below _ _) i ?_)
 rw [hk,<- hlen]
 have hreps2:Reps ((kT (ownX own w.heap.size i)).M w B (fun k=>1000<=own k)) 11 (js.map fun j=>roOf (kd j)) _:=hreps.imp_ (fun p cs hp=>by
  have h1:kRow.M w B (fun k=>1000<=own k/\own k=p.2) p.1 cs:=hp
  exact kRow.M_mono (fun k hk1=>⟨hk1.1.1,by rw [ownX_lt hk1.2.2.1];exact hk1.1.2⟩) (kRow.M_bound h1))
 refine ⟨R_made (kT (ownX own w.heap.size i)) B 60 hreps2 (fun k hk1 hk2=>?_) ?_ (ir_below h) (by rw [hlen];omega),fun k hk1=>?_⟩
 ·exact .inl (by rw [ownX_lt hk2];exact hk1)
 ·exact .inr (ownX_ge (Nat.le_refl _))
 ·have:w.heap.size=k:=by simpa [Value.ownBlock] using hk1
  subst this;exact ownX_ge (Nat.le_refl _)
theorem step_under (hi:i<90) {j t:Nat} (nm wd:ByteArray) (xs:List (SR × Nat)) (hj:j<93) (hl:xs.length<=1000) {ts:Array TypeId} (ho:(OPS[i]?).map (fun o=>(o.op,o.dst,o.guard))=some (.call { callee:=.value (.func 60),args:=#[.const (.string nm),.const (.string wd),.tmp (sl j)],argTypes:=ts },some (sl i),none))
  (htg:((List.range 90).all fun i'=>i' == i||con i' == i||tagOf (kd i') != t)=true) (hd:depB OPS i j=true) (hc:con j=i) (hk:kd i=.rs (xs.map (setT nm wd)) t) (hkj:kd j=.rs xs t) (ht:t<1000) (hne:0<xs.length)
  (h:IR kd con B w0 p1 p2 l a w own) (hrd:i ∈ Region.ready .any OPS l):wpOp Tryz.prog OPS Q i (Nxt B w0 p1 p2 l i) a w:=by
 have hg:=get_ h hrd hj hd (.inl hc);rw [hkj] at hg;obtain ⟨hR,hT⟩:=(show Kd.R (kT own) 60 w B (fun k=>1000<=own k∨own k=t) _ xs/\∀ k,(a.tmps.getD (sl j) undef).ownBlock=some k->own k=t from hg);obtain ⟨g,c,hv,hgg,_⟩:=Kd.R_form hR hne;rw [hv] at hR hT;have hgt:own g=t:=hT g rfl
 refine step_call ho Tryz.func60 rfl rfl (args:=#[.string nm,.string wd,.slice (some ⟨g,0,none⟩) xs.length c]) (by simp [Act.eval,hv]) ((under_calls own nm wd xs g c B _ w hR hl).mono ?_)
 rintro e w' ⟨rfl,hR',hG⟩;have hgB:B<=g:=Kd.R_base hR g rfl
 refine ⟨_,rfl,own,h.put (by omega) (t0:=t) ht ?_ (fun b hb=>rfl) (fun b hb hn1=>hG.block b hb (fun e=>hn1 (by injection e with e;rw [e];exact hgt))) ?_ hrd (fun i' h1 h2 h3=>⟨fun e=>?_,(kd_small h1).2⟩) rfl rfl⟩
 ·rw [hk]
  refine ⟨?_,fun k hk1=>?_⟩
  ·rw [<- List.length_map (f:=setT nm wd)] at hR' ⊢
   exact hR'
  ·have hkg:g=k:=by simpa [Value.ownBlock] using hk1
   subst hkg;exact hgt
 ·exact h.bel.grown hG (ir_below h) (fun b hb=>by injection hb with hb;omega)
 ·have h4:=List.all_eq_true.1 htg i' (List.mem_range.2 h1)
  simp only [Bool.or_eq_true,beq_iff_eq,bne_iff_ne,ne_eq] at h4;rcases h4 with (h4 | h4) | h4
  ·exact h2 h4
  ·exact h3 h4
  ·exact h4 e
theorem load_row {g:Nat} {c0 c1 c2 c3 c4 c5 c6 c7 c8 c9 c10:Value} {o:Oper} {s:Nat} (hp:a.tmps.getD s undef=.pointer (some ⟨g,0,none⟩)) (hE:w.heap[g]?=some (.cells #[c0,c1,c2,c3,c4,c5,c6,c7,c8,c9,c10] 60 (0,0))) (hop:o.op=.load 60 (.tmp s)) :
  (execOp a.eval o).run Tryz.prog w=.ok (.value (.agg #[c0,c1,c2,c3,c4,c5,c6,c7,c8,c9,c10])) w:=by
 obtain ⟨k0,k1,k2,k3,k4,k5,k6,k7,k8,k9,k10⟩:=row_cells hE;unfold execOp;rw [hop];simp [Act.eval,hp,go_sem,k0,k1,k2,k3,k4,k5,k6,k7,k8,k9,k10]
theorem step_load1 (hi:i<93) (ho:(OPS[i]?).map (fun o=>(o.op,o.dst,o.guard))=some (.load 60 (.tmp 1),some (sl i),none)) {s:Nat} (hk:kd i=.ro rowE s) (hE:w0.heap[p1]?=some (.cells rowEc 60 (0,0))) (hp:p1<B)
  (h:IR kd con B w0 p1 p2 l a w own) (hrd:i ∈ Region.ready .any OPS l):wpOp Tryz.prog OPS Q i (Nxt B w0 p1 p2 l i) a w :=
 step_value ho (fun o hop=>load_row h.s1 ((h.bel.block p1 hp).trans hE) hop) (put_new h hi hrd (Below.refl _ _) 0 (by
  rw [hk]
  exact ⟨_,rfl,kRow_mkM w B _ rowE (Kd.R_nil _ _ _ _ _)⟩))
theorem step_load2 (hi:i<93) (ho:(OPS[i]?).map (fun o=>(o.op,o.dst,o.guard))=some (.load 60 (.tmp 2),some (sl i),none)) {s:Nat} (hk:kd i=.ro rowI s) (hE:w0.heap[p2]?=some (.cells rowIc 60 (0,0))) (hp:p2<B)
  (h:IR kd con B w0 p1 p2 l a w own) (hrd:i ∈ Region.ready .any OPS l):wpOp Tryz.prog OPS Q i (Nxt B w0 p1 p2 l i) a w :=
 step_value ho (fun o hop=>load_row h.s2 ((h.bel.block p2 hp).trans hE) hop) (put_new h hi hrd (Below.refl _ _) 0 (by
  rw [hk]
  exact ⟨_,rfl,kRow_mkM w B _ rowI (Kd.R_nil _ _ _ _ _)⟩))
def rsOf:RK->List (SR × Nat)
 | .rs xs _=>xs
 | _=>[]
def isRs:RK->Bool
 | .rs _ _=>true
 | _=>false
theorem flat_one:∀ (vs:List Value),(vs.map (fun v=>[v])).flatten=vs
 | []=>rfl
 | v :: r=>by rw [List.map_cons,List.flatten_cons,flat_one r];rfl
theorem infoRows:(Tryz.prog.info? 53).map (fun i=>(i.zero,i.size,i.bytes))=some (some (.slice none 0 0),1,24):=by kernel_rfl
theorem step_al (js:List Nat) (hX:XSS=js.map (fun j=>rsOf (kd j))) (h0:0<(js.map sl).length) (hn:(js.map sl).length<=100) (ho:(OPS[90]?).map (fun o=>(o.op,o.dst,o.guard))=some (.buildSlice 177 (js.map sl).length ((js.map sl).zipIdx.map fun p=>(p.2,Operand.tmp p.1)).toArray,some (sl 90),none))
  (hjs:(js.all fun j=>isRs (kd j)&&depB OPS 90 j&&decide (con j=90)&&decide (j<93))=true) (hk:kd 90=.al XSS)
  (h:IR kd con B w0 p1 p2 l a w own) (hrd:90 ∈ Region.ready .any OPS l):wpOp Tryz.prog OPS Q 90 (Nxt B w0 p1 p2 l 90) a w:=by
 have hall:∀ j ∈ js,∃ A c,a.tmps.getD (sl j) undef=.slice A (rsOf (kd j)).length c/\ReadsRow ((kT own).M w B (fun k=>B<=k/\k<w.heap.size)) 11 w A (rsOf (kd j)).length (rsOf (kd j)):=fun j hj=>by
  have hb:=List.all_eq_true.1 hjs j hj;simp only [Bool.and_eq_true,decide_eq_true_eq] at hb;obtain ⟨⟨⟨b1,b2⟩,b3⟩,b4⟩:=hb;have hg:=get_ h hrd b4 b2 (.inl b3);cases hkj:kd j with
  | rs xs t =>
   rw [hkj] at hg;obtain ⟨hR,_⟩:=(show Kd.R (kT own) 60 w B (fun k=>1000<=own k∨own k=t) _ xs/\∀ k,(a.tmps.getD (sl j) undef).ownBlock=some k->own k=t from hg);obtain ⟨A,c,he,_,hr⟩:=OwnRow.reads (Kd.R_bound hR).2;exact ⟨A,c,he,hr.imp_ (Below.refl _ _) (fun p cs hp=>(show kRow.M w B (fun k=>(B<=k/\k<w.heap.size)/\own k=p.2) p.1 cs from kRow.M_mono (fun k hk1=>⟨⟨hk1.1.1.2.1,hk1.1.1.2.2.1⟩,hk1.2⟩) hp))⟩
  | _=>rw [hkj] at b1;cases b1
 have hcl:∀ s ∈ js.map sl,(a.tmps.getD s undef).cells.toList=[a.tmps.getD s undef]:=fun s hs=>by
  obtain ⟨j,hj,rfl⟩:=List.mem_map.1 hs;obtain ⟨A,c,he,_⟩:=hall j hj;rw [he]
  rfl
 have hflat:((js.map sl).map (fun s=>(a.tmps.getD s undef).cells.toList)).flatten=(js.map sl).map (fun s=>a.tmps.getD s undef):=by
  rw [List.map_congr_left hcl];have:=flat_one ((js.map sl).map (fun s=>a.tmps.getD s undef));rw [List.map_map] at this;exact this
 refine step_value ho (fun o hop=>run_vals (T:=177) (e:=53) (sz:=1) Tryz.underlying177 infoRows rfl (by decide) (by decide) (js.map sl) hop (fun s hs=>by rw [<- Array.length_toList,hcl s hs];rfl) h0 hn) (put_new h (by decide) hrd (alloc_below _ _) 0 ?_)
 rw [hk,hflat];have hlen:(js.map sl).length=XSS.length:=by rw [hX];simp
 rw [hlen]
 refine ⟨w.heap.size,rfl,fun i x hx=>?_⟩
 rw [hX,List.getElem?_map] at hx;cases hji:js[i]? with
 | none=>rw [hji] at hx;cases hx
 | some j =>
  rw [hji] at hx;obtain rfl:rsOf (kd j)=x:=by simpa using hx
  obtain ⟨A,c,he,hr⟩:=hall j (List.mem_of_getElem? hji);have hbl:=alloc_below w (.cells ((js.map sl).map (fun s=>a.tmps.getD s undef)).toArray 53)
  refine ⟨A,c,?_,hr.imp_ hbl (fun p cs hp=>?_)⟩
  ·rw [cell_row (heap_alloc_new w _) i]
   rw [Array.getD_eq_getD_getElem?] at he;simp [hji,he]
  ·have h1:kRow.M w B (fun k=>(B<=k/\k<w.heap.size)/\own k=p.2) p.1 cs:=hp
   have h2:kRow.M w B (fun k=>(B<=k/\k<(w.alloc (.cells ((js.map sl).map (fun s=>a.tmps.getD s undef)).toArray 53)).heap.size)/\ownX own w.heap.size 0 k=p.2) p.1 cs:=kRow.M_mono (fun k hk1=>⟨⟨hk1.1.1,Nat.lt_of_lt_of_le hk1.1.2 hbl.size⟩,by rw [ownX_lt hk1.1.2];exact hk1.2⟩) h1;exact Kd.M_below h2 hbl
theorem step_cat {ts:Array TypeId} (ho:(OPS[91]?).map (fun o=>(o.op,o.dst,o.guard))=some (.call { callee:=.value (.func 57),args:=#[.tmp (sl 90)],argTypes:=ts },some (sl 91),none)) (hd:depB OPS 91 90=true) (hk9:kd 90=.al XSS) (hk:kd 91=.fin XSS.flatten)
  (h:IR kd con B w0 p1 p2 l a w own) (hrd:91 ∈ Region.ready .any OPS l):wpOp Tryz.prog OPS Q 91 (Nxt B w0 p1 p2 l 91) a w:=by
 have hg:=get_ h hrd (j:=90) (by decide) hd (.inl rfl);rw [hk9] at hg;obtain ⟨gb,hv,hx⟩:=hg
 refine step_call ho Tryz.func57 rfl rfl (args:=#[.slice (some ⟨gb,0,none⟩) XSS.length XSS.length]) (by simp only [List.map_toArray,List.map_cons,List.map_nil,Act.eval,hv]) ((concat_calls own XSS gb B (fun k=>B<=k/\k<w.heap.size) w (ir_below h) (fun _ hk1=>hk1) hx (by decide) (by decide) (by decide)).mono ?_)
 rintro e w' ⟨⟨v,rfl,hR⟩,hB⟩
 refine ⟨_,rfl,own,h.put (by decide) (t0:=999) (by decide) ?_ (fun b hb=>rfl) (fun b hb _=>hB.block b hb) (h.bel.trans (hB.mono (ir_below h))) hrd (fun i' h1 _ _=>kd_small h1) rfl rfl⟩
 rw [hk];exact Kd.R_mono hR (fun _ _=>trivial)
theorem step_asg (ho:(OPS[92]?).map (fun o=>(o.op,o.dst,o.guard))=some (.assign (.tmp (sl 91)),some (sl 92),none)) (hd:depB OPS 92 91=true) (hk9:kd 91=.fin XSS.flatten) (hk:kd 92=.fin XSS.flatten)
  (h:IR kd con B w0 p1 p2 l a w own) (hrd:92 ∈ Region.ready .any OPS l):wpOp Tryz.prog OPS Q 92 (Nxt B w0 p1 p2 l 92) a w:=by
 have hg:=get_ h hrd (j:=91) (by decide) hd (.inl rfl);rw [hk9] at hg
 refine step_value (w1:=w) (v:=a.tmps.getD (sl 91) undef) ho (fun o hop=>by unfold execOp;rw [hop];rfl) ⟨own,h.put (by decide) (t0:=999) (by decide) ?_ (fun b hb=>rfl) (fun b hb _=>rfl) h.bel hrd (fun i' h1 _ _=>kd_small h1) rfl rfl⟩
 rw [hk];exact hg
def TG:List Nat:=XSS.flatten.map Prod.snd
theorem tg_apart:((List.range 49).all fun i=>TG.idxOf (TG.getD i 0) == i)=true:=by kernel_rfl
theorem fin_S {T:TypeId} {v:Value} (h:Kd.R (kT own) T w B (fun _=>True) v XSS.flatten):Kd.S kRow T w B (fun _=>True) v tab:=by
 obtain ⟨h0,inner,ho,hr⟩:=h
 refine ⟨fun k=>TG.idxOf (own k),h0,inner,?_,?_⟩
 ·rw [List.length_zipIdx,<- xss_tab,List.length_map]
  exact ho
 ·refine ⟨?_,fun j p hj=>?_⟩
  ·rw [List.length_zipIdx,<- xss_tab,List.length_map]
   exact hr.1
  ·rw [List.getElem?_zipIdx,<- xss_tab,List.getElem?_map] at hj
   cases hx:XSS.flatten[j]? with
   | none=>rw [hx] at hj;cases hj
   | some q =>
    rw [hx] at hj;obtain rfl:(q.1,j)=p:=by simpa using hj
    have h1:kRow.M w B (fun k=>(True/\some k≠v.ownBlock)/\own k=q.2) q.1 _:=hr.2 j q hx
    refine kRow.M_mono (fun k hk=>⟨hk.1,?_⟩) h1
    have hj9:j<49:=(List.getElem?_eq_some_iff.1 hx).1;have h2:=List.all_eq_true.1 tg_apart j (List.mem_range.2 hj9)
    have h3:TG.getD j 0=q.2:=by
     unfold TG;rw [List.getD_eq_getElem?_getD,List.getElem?_map,hx]
     rfl
    rw [h3,beq_iff_eq] at h2;show TG.idxOf (own k)=j;rw [hk.2];exact h2
end
noncomputable def opO (i:Nat):Op:=match OPS[i]? with
 | some o=>o.op
 | none=>.move (.tmp 0)
section
variable {Q:Exit->Act->World->Prop} {B:Nat} {w0:World} {p1 p2:Nat} {l:Array Bool} {a:Act} {w:World} {own:Nat->Nat}
theorem op_all (hE1:w0.heap[p1]?=some (.cells rowEc 60 (0,0))) (hp1:p1<B) (hE2:w0.heap[p2]?=some (.cells rowIc 60 (0,0))) (hp2:p2<B) (h:IR kd con B w0 p1 p2 l a w own):∀ i,i<93->i ∈ Region.ready .any OPS l->wpOp Tryz.prog OPS Q i (Nxt B w0 p1 p2 l i) a w
 | 0,_,hrd=>step_wd (op:=opO 0) (by decide) _ (by decide) (by kernel_rfl) rfl (by intro o ho;unfold execOp;rw [ho];kernel_rfl) h hrd
 | 1,_,hrd=>step_word (ts:=#[9,9,58,9,51]) (s:=1000) (by decide) (j:=0) _ _ 2 _ _ (by decide) (by kernel_rfl) (by decide) (by kernel_rfl) rfl rfl h hrd
 | 2,_,hrd=>step_flag (ts:=#[9,9,9]) (by decide) _ _ _ (by kernel_rfl) rfl h hrd
 | 3,_,hrd=>step_flag (ts:=#[9,9,9]) (by decide) _ _ _ (by kernel_rfl) rfl h hrd
 | 4,_,hrd=>step_flag (ts:=#[9,9,9]) (by decide) _ _ _ (by kernel_rfl) rfl h hrd
 | 5,_,hrd=>step_flag (ts:=#[9,9,9]) (by decide) _ _ _ (by kernel_rfl) rfl h hrd
 | 6,_,hrd=>step_flag (ts:=#[9,9,9]) (by decide) _ _ _ (by kernel_rfl) rfl h hrd
 | 7,_,hrd=>step_flag (ts:=#[9,9,9]) (by decide) _ _ _ (by kernel_rfl) rfl h hrd
 | 8,_,hrd=>step_flag (ts:=#[9,9,9]) (by decide) _ _ _ (by kernel_rfl) rfl h hrd
 | 9,_,hrd=>step_flag (ts:=#[9,9,9]) (by decide) _ _ _ (by kernel_rfl) rfl h hrd
 | 10,_,hrd=>step_num (ts:=#[9,9,46,46]) (by decide) _ _ _ _ (by kernel_rfl) rfl h hrd
 | 11,_,hrd=>step_wd (op:=opO 11) (by decide) _ (by decide) (by kernel_rfl) rfl (by intro o ho;unfold execOp;rw [ho];kernel_rfl) h hrd
 | 12,_,hrd=>step_word (ts:=#[9,9,58,9,51]) (s:=1011) (by decide) (j:=11) _ _ 1 _ _ (by decide) (by kernel_rfl) (by decide) (by kernel_rfl) rfl rfl h hrd
 | 13,_,hrd=>step_num (ts:=#[9,9,46,46]) (by decide) _ _ _ _ (by kernel_rfl) rfl h hrd
 | 14,_,hrd=>step_wd (op:=opO 14) (by decide) _ (by decide) (by kernel_rfl) rfl (by intro o ho;unfold execOp;rw [ho];kernel_rfl) h hrd
 | 15,_,hrd=>step_word (ts:=#[9,9,58,9,51]) (s:=1014) (by decide) (j:=14) _ _ 1 _ _ (by decide) (by kernel_rfl) (by decide) (by kernel_rfl) rfl rfl h hrd
 | 16,_,hrd=>step_rows (by decide) [1,2,3,4,5,6,7,8,9,10,12,13,15] (by decide) (by decide) (by kernel_rfl) (by kernel_rfl) rfl h hrd
 | 17,_,hrd=>step_ref (ts:=#[9,9,58]) (by decide) _ _ _ (by kernel_rfl) rfl h hrd
 | 18,_,hrd=>step_rows (by decide) [17] (by decide) (by decide) (by kernel_rfl) (by kernel_rfl) rfl h hrd
 | 19,_,hrd=>step_under (ts:=#[9,9,53]) (by decide) (j:=18) (t:=18) _ _ [(r17,1017)] (by decide) (by decide) (by kernel_rfl) (by kernel_rfl) (by kernel_rfl) (by decide) rfl rfl (by decide) (by decide) h hrd
 | 20,_,hrd=>step_ref (ts:=#[9,9,58]) (by decide) _ _ _ (by kernel_rfl) rfl h hrd
 | 21,_,hrd=>step_ref (ts:=#[9,9,58]) (by decide) _ _ _ (by kernel_rfl) rfl h hrd
 | 22,_,hrd=>step_ref (ts:=#[9,9,58]) (by decide) _ _ _ (by kernel_rfl) rfl h hrd
 | 23,_,hrd=>step_num (ts:=#[9,9,46,46]) (by decide) _ _ _ _ (by kernel_rfl) rfl h hrd
 | 24,_,hrd=>step_num (ts:=#[9,9,46,46]) (by decide) _ _ _ _ (by kernel_rfl) rfl h hrd
 | 25,_,hrd=>step_ref (ts:=#[9,9,58]) (by decide) _ _ _ (by kernel_rfl) rfl h hrd
 | 26,_,hrd=>step_ref (ts:=#[9,9,58]) (by decide) _ _ _ (by kernel_rfl) rfl h hrd
 | 27,_,hrd=>step_wd (op:=opO 27) (by decide) _ (by decide) (by kernel_rfl) rfl (by intro o ho;unfold execOp;rw [ho];kernel_rfl) h hrd
 | 28,_,hrd=>step_word (ts:=#[9,9,58,9,51]) (s:=1027) (by decide) (j:=27) _ _ 1 _ _ (by decide) (by kernel_rfl) (by decide) (by kernel_rfl) rfl rfl h hrd
 | 29,_,hrd=>step_rows (by decide) [20,21,22,23,24,25,26,28] (by decide) (by decide) (by kernel_rfl) (by kernel_rfl) rfl h hrd
 | 30,_,hrd=>step_ref (ts:=#[9,9,58]) (by decide) _ _ _ (by kernel_rfl) rfl h hrd
 | 31,_,hrd=>step_rows (by decide) [30] (by decide) (by decide) (by kernel_rfl) (by kernel_rfl) rfl h hrd
 | 32,_,hrd=>step_under (ts:=#[9,9,53]) (by decide) (j:=31) (t:=31) _ _ [(r30,1030)] (by decide) (by decide) (by kernel_rfl) (by kernel_rfl) (by kernel_rfl) (by decide) rfl rfl (by decide) (by decide) h hrd
 | 33,_,hrd=>step_load1 (by decide) (by kernel_rfl) rfl hE1 hp1 h hrd
 | 34,_,hrd=>step_num (ts:=#[9,9,46,46]) (by decide) _ _ _ _ (by kernel_rfl) rfl h hrd
 | 35,_,hrd=>step_num (ts:=#[9,9,46,46]) (by decide) _ _ _ _ (by kernel_rfl) rfl h hrd
 | 36,_,hrd=>step_num (ts:=#[9,9,46,46]) (by decide) _ _ _ _ (by kernel_rfl) rfl h hrd
 | 37,_,hrd=>step_ref (ts:=#[9,9,58]) (by decide) _ _ _ (by kernel_rfl) rfl h hrd
 | 38,_,hrd=>step_wd (op:=opO 38) (by decide) _ (by decide) (by kernel_rfl) rfl (by intro o ho;unfold execOp;rw [ho];kernel_rfl) h hrd
 | 39,_,hrd=>step_word (ts:=#[9,9,58,9,51]) (s:=1038) (by decide) (j:=38) _ _ 1 _ _ (by decide) (by kernel_rfl) (by decide) (by kernel_rfl) rfl rfl h hrd
 | 40,_,hrd=>step_rows (by decide) [33,34,35,36,37,39] (by decide) (by decide) (by kernel_rfl) (by kernel_rfl) rfl h hrd
 | 41,_,hrd=>step_ref (ts:=#[9,9,58]) (by decide) _ _ _ (by kernel_rfl) rfl h hrd
 | 42,_,hrd=>step_rows (by decide) [41] (by decide) (by decide) (by kernel_rfl) (by kernel_rfl) rfl h hrd
 | 43,_,hrd=>step_under (ts:=#[9,9,53]) (by decide) (j:=42) (t:=42) _ _ [(r41,1041)] (by decide) (by decide) (by kernel_rfl) (by kernel_rfl) (by kernel_rfl) (by decide) rfl rfl (by decide) (by decide) h hrd
 | 44,_,hrd=>step_ref (ts:=#[9,9,58]) (by decide) _ _ _ (by kernel_rfl) rfl h hrd
 | 45,_,hrd=>step_ref (ts:=#[9,9,58]) (by decide) _ _ _ (by kernel_rfl) rfl h hrd
 | 46,_,hrd=>step_rows (by decide) [44,45] (by decide) (by decide) (by kernel_rfl) (by kernel_rfl) rfl h hrd
 | 47,_,hrd=>step_under (ts:=#[9,9,53]) (by decide) (j:=46) (t:=46) _ _ [(r44,1044),(r45,1045)] (by decide) (by decide) (by kernel_rfl) (by kernel_rfl) (by kernel_rfl) (by decide) rfl rfl (by decide) (by decide) h hrd
 | 48,_,hrd=>step_text (ts:=#[9,9,51]) (by decide) _ _ (by kernel_rfl) rfl h hrd
 | 49,_,hrd=>step_rows (by decide) [48] (by decide) (by decide) (by kernel_rfl) (by kernel_rfl) rfl h hrd
 | 50,_,hrd=>step_under (ts:=#[9,9,53]) (by decide) (j:=49) (t:=49) _ _ [(r48,1048)] (by decide) (by decide) (by kernel_rfl) (by kernel_rfl) (by kernel_rfl) (by decide) rfl rfl (by decide) (by decide) h hrd
 | 51,_,hrd=>step_wd (op:=opO 51) (by decide) _ (by decide) (by kernel_rfl) rfl (by intro o ho;unfold execOp;rw [ho];kernel_rfl) h hrd
 | 52,_,hrd=>step_word (ts:=#[9,9,58,9,51]) (s:=1051) (by decide) (j:=51) _ _ 1 _ _ (by decide) (by kernel_rfl) (by decide) (by kernel_rfl) rfl rfl h hrd
 | 53,_,hrd=>step_rows (by decide) [52] (by decide) (by decide) (by kernel_rfl) (by kernel_rfl) rfl h hrd
 | 54,_,hrd=>step_num (ts:=#[9,9,46,46]) (by decide) _ _ _ _ (by kernel_rfl) rfl h hrd
 | 55,_,hrd=>step_num (ts:=#[9,9,46,46]) (by decide) _ _ _ _ (by kernel_rfl) rfl h hrd
 | 56,_,hrd=>step_ref (ts:=#[9,9,58]) (by decide) _ _ _ (by kernel_rfl) rfl h hrd
 | 57,_,hrd=>step_rows (by decide) [54,55,56] (by decide) (by decide) (by kernel_rfl) (by kernel_rfl) rfl h hrd
 | 58,_,hrd=>step_under (ts:=#[9,9,53]) (by decide) (j:=57) (t:=57) _ _ [(r54,1054),(r55,1055),(r56,1056)] (by decide) (by decide) (by kernel_rfl) (by kernel_rfl) (by kernel_rfl) (by decide) rfl rfl (by decide) (by decide) h hrd
 | 59,_,hrd=>step_wd (op:=opO 59) (by decide) _ (by decide) (by kernel_rfl) rfl (by intro o ho;unfold execOp;rw [ho];kernel_rfl) h hrd
 | 60,_,hrd=>step_word (ts:=#[9,9,58,9,51]) (s:=1059) (by decide) (j:=59) _ _ 1 _ _ (by decide) (by kernel_rfl) (by decide) (by kernel_rfl) rfl rfl h hrd
 | 61,_,hrd=>step_rows (by decide) [60] (by decide) (by decide) (by kernel_rfl) (by kernel_rfl) rfl h hrd
 | 62,_,hrd=>step_wd (op:=opO 62) (by decide) _ (by decide) (by kernel_rfl) rfl (by intro o ho;unfold execOp;rw [ho];kernel_rfl) h hrd
 | 63,_,hrd=>step_textw (ts:=#[9,9,51]) (s:=1062) (by decide) (j:=62) _ _ _ (by decide) (by kernel_rfl) (by decide) (by kernel_rfl) rfl rfl h hrd
 | 64,_,hrd=>step_rows (by decide) [63] (by decide) (by decide) (by kernel_rfl) (by kernel_rfl) rfl h hrd
 | 65,_,hrd=>step_under (ts:=#[9,9,53]) (by decide) (j:=64) (t:=64) _ _ [(r63,1062)] (by decide) (by decide) (by kernel_rfl) (by kernel_rfl) (by kernel_rfl) (by decide) rfl rfl (by decide) (by decide) h hrd
 | 66,_,hrd=>step_ref (ts:=#[9,9,58]) (by decide) _ _ _ (by kernel_rfl) rfl h hrd
 | 67,_,hrd=>step_load2 (by decide) (by kernel_rfl) rfl hE2 hp2 h hrd
 | 68,_,hrd=>step_rows (by decide) [66,67] (by decide) (by decide) (by kernel_rfl) (by kernel_rfl) rfl h hrd
 | 69,_,hrd=>step_under (ts:=#[9,9,53]) (by decide) (j:=68) (t:=68) _ _ [(r66,1066),(r67,1067)] (by decide) (by decide) (by kernel_rfl) (by kernel_rfl) (by kernel_rfl) (by decide) rfl rfl (by decide) (by decide) h hrd
 | 70,_,hrd=>step_ref (ts:=#[9,9,58]) (by decide) _ _ _ (by kernel_rfl) rfl h hrd
 | 71,_,hrd=>step_num (ts:=#[9,9,46,46]) (by decide) _ _ _ _ (by kernel_rfl) rfl h hrd
 | 72,_,hrd=>step_rows (by decide) [70,71] (by decide) (by decide) (by kernel_rfl) (by kernel_rfl) rfl h hrd
 | 73,_,hrd=>step_under (ts:=#[9,9,53]) (by decide) (j:=72) (t:=72) _ _ [(r70,1070),(r71,1071)] (by decide) (by decide) (by kernel_rfl) (by kernel_rfl) (by kernel_rfl) (by decide) rfl rfl (by decide) (by decide) h hrd
 | 74,_,hrd=>step_wd (op:=opO 74) (by decide) _ (by decide) (by kernel_rfl) rfl (by intro o ho;unfold execOp;rw [ho];kernel_rfl) h hrd
 | 75,_,hrd=>step_word (ts:=#[9,9,58,9,51]) (s:=1074) (by decide) (j:=74) _ _ 2 _ _ (by decide) (by kernel_rfl) (by decide) (by kernel_rfl) rfl rfl h hrd
 | 76,_,hrd=>step_rows (by decide) [75] (by decide) (by decide) (by kernel_rfl) (by kernel_rfl) rfl h hrd
 | 77,_,hrd=>step_ref (ts:=#[9,9,58]) (by decide) _ _ _ (by kernel_rfl) rfl h hrd
 | 78,_,hrd=>step_rows (by decide) [77] (by decide) (by decide) (by kernel_rfl) (by kernel_rfl) rfl h hrd
 | 79,_,hrd=>step_under (ts:=#[9,9,53]) (by decide) (j:=78) (t:=78) _ _ [(r77,1077)] (by decide) (by decide) (by kernel_rfl) (by kernel_rfl) (by kernel_rfl) (by decide) rfl rfl (by decide) (by decide) h hrd
 | 80,_,hrd=>step_ref (ts:=#[9,9,58]) (by decide) _ _ _ (by kernel_rfl) rfl h hrd
 | 81,_,hrd=>step_ref (ts:=#[9,9,58]) (by decide) _ _ _ (by kernel_rfl) rfl h hrd
 | 82,_,hrd=>step_rows (by decide) [80,81] (by decide) (by decide) (by kernel_rfl) (by kernel_rfl) rfl h hrd
 | 83,_,hrd=>step_under (ts:=#[9,9,53]) (by decide) (j:=82) (t:=82) _ _ [(r80,1080),(r81,1081)] (by decide) (by decide) (by kernel_rfl) (by kernel_rfl) (by kernel_rfl) (by decide) rfl rfl (by decide) (by decide) h hrd
 | 84,_,hrd=>step_text (ts:=#[9,9,51]) (by decide) _ _ (by kernel_rfl) rfl h hrd
 | 85,_,hrd=>step_rows (by decide) [84] (by decide) (by decide) (by kernel_rfl) (by kernel_rfl) rfl h hrd
 | 86,_,hrd=>step_under (ts:=#[9,9,53]) (by decide) (j:=85) (t:=85) _ _ [(r84,1084)] (by decide) (by decide) (by kernel_rfl) (by kernel_rfl) (by kernel_rfl) (by decide) rfl rfl (by decide) (by decide) h hrd
 | 87,_,hrd=>step_text (ts:=#[9,9,51]) (by decide) _ _ (by kernel_rfl) rfl h hrd
 | 88,_,hrd=>step_rows (by decide) [87] (by decide) (by decide) (by kernel_rfl) (by kernel_rfl) rfl h hrd
 | 89,_,hrd=>step_under (ts:=#[9,9,53]) (by decide) (j:=88) (t:=88) _ _ [(r87,1087)] (by decide) (by decide) (by kernel_rfl) (by kernel_rfl) (by kernel_rfl) (by decide) rfl rfl (by decide) (by decide) h hrd
 | 90,_,hrd=>step_al [16,19,29,32,40,43,47,50,53,58,61,65,69,73,76,79,83,86,89] (by kernel_rfl) (by decide) (by decide) (by kernel_rfl) (by kernel_rfl) rfl h hrd
 | 91,_,hrd=>step_cat (ts:=#[177]) (by kernel_rfl) (by kernel_rfl) rfl rfl h hrd
 | 92,_,hrd=>step_asg (by kernel_rfl) (by kernel_rfl) rfl rfl h hrd
 | n + 93,hn,_=>absurd hn (by omega)
end
theorem region_rows {P:Program} {Q:Exit->Act->World->Prop} {ops:Array Oper} (ho:ops=OPS) (hP:P=Tryz.prog) {id:Nat} {a:Act} {W:World} {p1 p2:Nat} (hm:P.follows .mixedOrders=true)
  (hd:a.defers=[]) (hz:a.tmps.size=102) (h1:a.tmps.getD 1 undef=.pointer (some ⟨p1,0,none⟩)) (h2:a.tmps.getD 2 undef=.pointer (some ⟨p2,0,none⟩))
  (hE1:W.heap[p1]?=some (.cells rowEc 60 (0,0))) (hE2:W.heap[p2]?=some (.cells rowIc 60 (0,0)))
  (hfin:∀ a' w' v,a'.defers=[]->a'.tmps.size=102->a'.tmps.getD 0 undef=v->Below W.heap.size W w'->Kd.S kRow 60 w' W.heap.size (fun _=>True) v tab->Q .normal a' w'):(Code.region id ops true).wp P Q a W:=by
 subst ho;subst hP;have b1:p1<W.heap.size:=(gS.1 hE1).1;have b2:p2<W.heap.size:=(gS.1 hE2).1
 refine region_inv hm (fun l a' w'=>∃ own,IR kd con W.heap.size W p1 p2 l a' w' own) (fun l a' w' i hI hi=>?_) (fun l a' w' hI hr=>?_) ?_
 ·obtain ⟨own,h⟩:=hI
  have hlt:i<93:=by have:=(ready_open hi).1;rwa [ops_size] at this
  exact op_all hE1 b1 hE2 b2 h i hlt hi
 ·obtain ⟨own,h⟩:=hI
  have hall:=all_listed h.lz hr;have hg:=h.gd 92 (by decide) (hall 92 (by decide)) (fun hc=>absurd hc (by decide));exact hfin a' w' _ h.df h.sz rfl h.bel (fin_S (show Kd.R (kT own) 60 w' W.heap.size (fun _=>True) _ XSS.flatten from hg))
 ·exact ⟨fun _=>0,hd,hz,by simp [ops_size],h1,h2,(Below.refl _ _).drew,Nat.le_refl _,fun j oj hj hl=>by
   exfalso
   rw [Array.getD_eq_getD_getElem?,Array.getElem?_replicate] at hl
   split at hl <;> simp at hl,fun i hi hl=>by
   exfalso
   rw [Array.getD_eq_getD_getElem?,Array.getElem?_replicate,if_pos (by rw [ops_size];exact hi)] at hl
   simp at hl⟩
abbrev numC (o n:ByteArray) (lo hi:Int):Array Value:=#[.string o,.string ⟨#[]⟩,.string ⟨#[]⟩,.string n,.int .i64 1,.slice none 0 0,.int .u32 lo,.int .u32 hi,.bool false,.int .i64 1,.string ⟨#[]⟩]
theorem rows_calls (w:World):Calls Tryz.prog 25 #[] w fun e w'=>(∃ v,e=.returned v/\Kd.S kRow 60 w' w.heap.size (fun _=>True) v tab)/\Below w.heap.size w w':=by
 have tk1:True:=trivial
 go_enter Tryz.func25,Tryz.ntmps25
 go_upto_region 2 with (first
  | (go_at_call 56;refine (number_calls _ _ _ _ _).mono ?_;rintro e w1 ⟨rfl,hB1⟩;have B1:=hid hB1;clear hB1)
  | (have _t:=tk1;refine run_event rfl (.alloc 60) rfl (.pointer (some ⟨w1.heap.size,0,none⟩)) (w1.alloc (.cells row0 60)) (by kernel_rfl) ?_;intro w2 hw2;have B2:Hid (Below w.heap.size w w2):=hid (B1.out.trans (by rw [hw2];exact (alloc_below _ _).mono B1.out.size));have E2:Hid (w2.heap[w1.heap.size]?=some (.cells row0 60 (0,0))):=hid (by rw [hw2];exact heap_alloc_new _ _);clear hw2 tk1 _t)
  | ((with_reducible refine gate_store (t:=60) (p:=1) rfl ?_);refine put_event rfl 60 _ _ rfl w1.heap.size (numC ⟨#[69,86,69,78,84]⟩ ⟨#[77,65,83,75]⟩ 1 4294967295) rfl rfl 60 row0 E2.out (by kernel_rfl) rfl (by simp [Value.oneCell',numC]) w1.heap.size (Nat.le_refl _) ?_;intro w3 hb3 hB3 hs3 ho3;have E3:=hid hb3;have B3:Hid (Below w.heap.size w w3):=hid (B2.out.trans (hB3.mono B1.out.size));clear hb3 hB3 hs3 ho3))
 clear B2 E2;have HA:Hid (w.heap.size<=w1.heap.size/\w1.heap.size<w3.heap.size):=hid ⟨B1.out.size,(gS.1 E3.out).1⟩;clear B1;obtain ⟨p1,hp1⟩:∃ p1,p1=w1.heap.size:=⟨_,rfl⟩;rw [<- hp1] at HA E3 ⊢;clear hp1
 go_upto_region 3 with (first
  | ((with_reducible refine gate_store (t:=4) (p:=4) rfl ?_);refine cell_event rfl 4 _ _ rfl p1 8 (.bool true) rfl rfl rfl (thereR E3.out (by simp)) (by kernel_rfl) p1 (Nat.le_refl _) ?_;intro w4 hw4 hB4 hs4;obtain ⟨hr4,hk4,hz4⟩:=row1 E3.out hw4;have E4:Hid (w4.heap[p1]?=some (.cells #[.string ⟨#[69,86,69,78,84]⟩,.string ⟨#[]⟩,.string ⟨#[]⟩,.string ⟨#[77,65,83,75]⟩,.int .i64 1,.slice none 0 0,.int .u32 1,.int .u32 4294967295,.bool true,.int .i64 1,.string ⟨#[]⟩] 60 (0,0))):=hid hr4;have B4:Hid (Below w.heap.size w w4):=hid (B3.out.trans (hB4.mono HA.out.1));have K4:Hid (∀ k,k≠p1->w4.heap[k]?=w3.heap[k]?):=hid hk4;clear hw4 hr4 hk4 hz4 hB4 hs4)
  | ((with_reducible refine gate_store (t:=58) (p:=5) rfl ?_);refine cell_event rfl 58 _ _ rfl p1 9 (.int .i64 2) rfl rfl rfl (thereR E4.out (by simp)) (by kernel_rfl) p1 (Nat.le_refl _) ?_;intro w5 hw5 hB5 hs5;obtain ⟨hr5,hk5,hz5⟩:=row1 E4.out hw5;have E5:Hid (w5.heap[p1]?=some (.cells #[.string ⟨#[69,86,69,78,84]⟩,.string ⟨#[]⟩,.string ⟨#[]⟩,.string ⟨#[77,65,83,75]⟩,.int .i64 1,.slice none 0 0,.int .u32 1,.int .u32 4294967295,.bool true,.int .i64 2,.string ⟨#[]⟩] 60 (0,0))):=hid hr5;have B5:Hid (Below w.heap.size w w5):=hid (B4.out.trans (hB5.mono HA.out.1));have K5:Hid (∀ k,k≠p1->w5.heap[k]?=w4.heap[k]?):=hid hk5;clear hw5 hr5 hk5 hz5 hB5 hs5)
  | ((with_reducible refine gate_store (t:=9) (p:=6) rfl ?_);refine cell_event rfl 9 _ _ rfl p1 10 (.string sAuto) rfl rfl rfl (thereR E5.out (by simp)) (by kernel_rfl) p1 (Nat.le_refl _) ?_;intro w6 hw6 hB6 hs6;obtain ⟨hr6,hk6,hz6⟩:=row1 E5.out hw6;have E6:Hid (w6.heap[p1]?=some (.cells #[.string ⟨#[69,86,69,78,84]⟩,.string ⟨#[]⟩,.string ⟨#[]⟩,.string ⟨#[77,65,83,75]⟩,.int .i64 1,.slice none 0 0,.int .u32 1,.int .u32 4294967295,.bool true,.int .i64 2,.string sAuto] 60 (0,0))):=hid hr6;have B6:Hid (Below w.heap.size w w6):=hid (B5.out.trans (hB6.mono HA.out.1));have K6:Hid (∀ k,k≠p1->w6.heap[k]?=w5.heap[k]?):=hid hk6;clear hw6 hr6 hk6 hz6 hB6 hs6))
 have HZ6:Hid (p1<w6.heap.size):=hid (gS.1 E6.out).1;clear B3 E3 B4 E4 K4 B5 E5 K5 K6;have tk1:True:=trivial
 go_upto_region 4 with (first
  | (go_at_call 56;refine (number_calls _ _ _ _ _).mono ?_;rintro e w7 ⟨rfl,hB7⟩;have B7:Hid (Below w6.heap.size w6 w7):=hid hB7;clear hB7)
  | (have _t:=tk1;refine run_event rfl (.alloc 60) rfl (.pointer (some ⟨w7.heap.size,0,none⟩)) (w7.alloc (.cells row0 60)) (by kernel_rfl) ?_;intro w8 hw8;have B8:Hid (Below w6.heap.size w6 w8):=hid (B7.out.trans (by rw [hw8];exact (alloc_below _ _).mono B7.out.size));have E8:Hid (w8.heap[w7.heap.size]?=some (.cells row0 60 (0,0))):=hid (by rw [hw8];exact heap_alloc_new _ _);clear hw8 tk1 _t)
  | ((with_reducible refine gate_store (t:=60) (p:=2) rfl ?_);refine put_event rfl 60 _ _ rfl w7.heap.size (numC ⟨#[77,69,83,83,65,71,69]⟩ ⟨#[73,78,73,84,73,65,76,86,65,76,85,69]⟩ 0 4294967295) rfl rfl 60 row0 E8.out (by kernel_rfl) rfl (by simp [Value.oneCell',numC]) w7.heap.size (Nat.le_refl _) ?_;intro w9 hb9 hB9 hs9 ho9;have E9:=hid hb9;have B9:Hid (Below w6.heap.size w6 w9):=hid (B8.out.trans (hB9.mono B7.out.size));clear hb9 hB9 hs9 ho9))
 clear B8 E8;have HC:Hid (w6.heap.size<=w7.heap.size):=hid B7.out.size;clear B7;obtain ⟨p2,hp2⟩:∃ p2,p2=w7.heap.size:=⟨_,rfl⟩;rw [<- hp2] at HC E9 ⊢;clear hp2
 go_upto_region 5 with (first
  | ((with_reducible refine gate_store (t:=58) (p:=8) rfl ?_);refine cell_event rfl 58 _ _ rfl p2 9 (.int .i64 2) rfl rfl rfl (thereR E9.out (by simp)) (by kernel_rfl) p2 (Nat.le_refl _) ?_;intro w10 hw10 hB10 hs10;obtain ⟨hr10,hk10,hz10⟩:=row1 E9.out hw10;have E10:Hid (w10.heap[p2]?=some (.cells #[.string ⟨#[77,69,83,83,65,71,69]⟩,.string ⟨#[]⟩,.string ⟨#[]⟩,.string ⟨#[73,78,73,84,73,65,76,86,65,76,85,69]⟩,.int .i64 1,.slice none 0 0,.int .u32 0,.int .u32 4294967295,.bool false,.int .i64 2,.string ⟨#[]⟩] 60 (0,0))):=hid hr10;have B10:Hid (Below w6.heap.size w6 w10):=hid (B9.out.trans (hB10.mono HC.out));have K10:Hid (∀ k,k≠p2->w10.heap[k]?=w9.heap[k]?):=hid hk10;clear hw10 hr10 hk10 hz10 hB10 hs10)
  | ((with_reducible refine gate_store (t:=9) (p:=9) rfl ?_);refine cell_event rfl 9 _ _ rfl p2 10 (.string ⟨#[48]⟩) rfl rfl rfl (thereR E10.out (by simp)) (by kernel_rfl) p2 (Nat.le_refl _) ?_;intro w11 hw11 hB11 hs11;obtain ⟨hr11,hk11,hz11⟩:=row1 E10.out hw11;have E11:Hid (w11.heap[p2]?=some (.cells #[.string ⟨#[77,69,83,83,65,71,69]⟩,.string ⟨#[]⟩,.string ⟨#[]⟩,.string ⟨#[73,78,73,84,73,65,76,86,65,76,85,69]⟩,.int .i64 1,.slice none 0 0,.int .u32 0,.int .u32 4294967295,.bool false,.int .i64 2,.string ⟨#[48]⟩] 60 (0,0))):=hid hr11;have B11:Hid (Below w6.heap.size w6 w11):=hid (B10.out.trans (hB11.mono HC.out));have K11:Hid (∀ k,k≠p2->w11.heap[k]?=w10.heap[k]?):=hid hk11;clear hw11 hr11 hk11 hz11 hB11 hs11))
 have hE1:w11.heap[p1]?=some (.cells rowEc 60 (0,0)):=(B11.out.block p1 HZ6.out).trans E6.out;have hE2:w11.heap[p2]?=some (.cells rowIc 60 (0,0)):=E11.out;have HB:Hid (Below w.heap.size w w11):=hid (B6.out.trans (B11.out.mono B6.out.size))
 refine region_rows (p1:=p1) (p2:=p2) (by kernel_rfl) rfl rfl (by rfl) (by rfl) (by rfl) (by rfl) hE1 hE2 ?_
 intro a' w' v hd hz hv hB hS
 have hR:bodyPost Tryz.prog Tryz.f25 (fun e w'=>(∃ v,e=.returned v/\Kd.S kRow 60 w' w.heap.size (fun _=>True) v tab)/\Below w.heap.size w w') .ret a' w' :=
  bodyPost_ret (v:=v) (by simp [results,Tryz.results25,go_sem];rw [Array.getD_eq_getD_getElem?] at hv;exact hv) hd ⟨⟨v,rfl,Kd.S_lower hS (HB.out.size)⟩,HB.out.trans (hB.mono HB.out.size)⟩
 rename_i hK;exact hK a' w' (wp_ret hR)
end Go.Proofs.YtmfejjlmflgnbaaGreatDoor.Sc

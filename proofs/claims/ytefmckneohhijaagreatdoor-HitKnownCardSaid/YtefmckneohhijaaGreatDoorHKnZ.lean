/- All known calls. No condition but that the listed variables are laid. -/
import Derived.Test.YtefmckneohhijaaGreatDoorHKnP0
import Derived.Test.YtefmckneohhijaaGreatDoorHKnP1
import Derived.Test.YtefmckneohhijaaGreatDoorHKnP2
import Derived.Test.YtefmckneohhijaaGreatDoorHKnP3
import Derived.Test.YtefmckneohhijaaGreatDoorHKnP4
import Derived.Test.YtefmckneohhijaaGreatDoorHKnP5
import Derived.Test.YtefmckneohhijaaGreatDoorHKnP6
import Derived.Test.YtefmckneohhijaaGreatDoorHKnP7
import Derived.Test.YtefmckneohhijaaGreatDoorHKnP8
import Derived.Test.YtefmckneohhijaaGreatDoorHKnP9
import Derived.Test.YtefmckneohhijaaGreatDoorHKnP10
import Derived.Test.YtefmckneohhijaaGreatDoorHKnP11
import Derived.Test.YtefmckneohhijaaGreatDoorHKnP12
namespace Go.Proofs.YtefmckneohhijaaGreatDoor
open Go Go.Ex
theorem all0 {w0 : World} (hL : Laid w0) : MemoAll w0 ms0 := memo_step hL (memo_nil w0) k0
theorem all1 {w0 : World} (hL : Laid w0) : MemoAll w0 ms1 := memo_step hL (all0 hL) k1
theorem all2 {w0 : World} (hL : Laid w0) : MemoAll w0 ms2 := memo_step hL (all1 hL) k2
theorem all3 {w0 : World} (hL : Laid w0) : MemoAll w0 ms3 := memo_step hL (all2 hL) k3
theorem all4 {w0 : World} (hL : Laid w0) : MemoAll w0 ms4 := memo_step hL (all3 hL) k4
theorem all5 {w0 : World} (hL : Laid w0) : MemoAll w0 ms5 := memo_step hL (all4 hL) k5
theorem all6 {w0 : World} (hL : Laid w0) : MemoAll w0 ms6 := memo_step hL (all5 hL) k6
theorem all7 {w0 : World} (hL : Laid w0) : MemoAll w0 ms7 := memo_step hL (all6 hL) k7
theorem all8 {w0 : World} (hL : Laid w0) : MemoAll w0 ms8 := memo_step hL (all7 hL) k8
theorem all9 {w0 : World} (hL : Laid w0) : MemoAll w0 ms9 := memo_step hL (all8 hL) k9
theorem all10 {w0 : World} (hL : Laid w0) : MemoAll w0 ms10 := memo_step hL (all9 hL) k10
theorem all11 {w0 : World} (hL : Laid w0) : MemoAll w0 ms11 := memo_step hL (all10 hL) k11
theorem all12 {w0 : World} (hL : Laid w0) : MemoAll w0 ms12 := memo_step hL (all11 hL) k12
theorem all13 {w0 : World} (hL : Laid w0) : MemoAll w0 ms13 := memo_step hL (all12 hL) k13
theorem all14 {w0 : World} (hL : Laid w0) : MemoAll w0 ms14 := memo_step hL (all13 hL) k14
theorem all15 {w0 : World} (hL : Laid w0) : MemoAll w0 ms15 := memo_step hL (all14 hL) k15
theorem all16 {w0 : World} (hL : Laid w0) : MemoAll w0 ms16 := memo_step hL (all15 hL) k16
theorem all17 {w0 : World} (hL : Laid w0) : MemoAll w0 ms17 := memo_step hL (all16 hL) k17
theorem all18 {w0 : World} (hL : Laid w0) : MemoAll w0 ms18 := memo_step hL (all17 hL) k18
theorem all19 {w0 : World} (hL : Laid w0) : MemoAll w0 ms19 := memo_step hL (all18 hL) k19
theorem all20 {w0 : World} (hL : Laid w0) : MemoAll w0 ms20 := memo_step hL (all19 hL) k20
theorem all21 {w0 : World} (hL : Laid w0) : MemoAll w0 ms21 := memo_step hL (all20 hL) k21
theorem all22 {w0 : World} (hL : Laid w0) : MemoAll w0 ms22 := memo_step hL (all21 hL) k22
theorem all23 {w0 : World} (hL : Laid w0) : MemoAll w0 ms23 := memo_step hL (all22 hL) k23
theorem all24 {w0 : World} (hL : Laid w0) : MemoAll w0 ms24 := memo_step hL (all23 hL) k24
theorem all25 {w0 : World} (hL : Laid w0) : MemoAll w0 ms25 := memo_step hL (all24 hL) k25
theorem all26 {w0 : World} (hL : Laid w0) : MemoAll w0 ms26 := memo_step hL (all25 hL) k26
theorem all27 {w0 : World} (hL : Laid w0) : MemoAll w0 ms27 := memo_step hL (all26 hL) k27
theorem all28 {w0 : World} (hL : Laid w0) : MemoAll w0 ms28 := memo_step hL (all27 hL) k28
theorem all29 {w0 : World} (hL : Laid w0) : MemoAll w0 ms29 := memo_step hL (all28 hL) k29
theorem all30 {w0 : World} (hL : Laid w0) : MemoAll w0 ms30 := memo_step hL (all29 hL) k30
theorem all31 {w0 : World} (hL : Laid w0) : MemoAll w0 ms31 := memo_step hL (all30 hL) k31
theorem all32 {w0 : World} (hL : Laid w0) : MemoAll w0 ms32 := memo_step hL (all31 hL) k32
theorem all33 {w0 : World} (hL : Laid w0) : MemoAll w0 ms33 := memo_step hL (all32 hL) k33
theorem all34 {w0 : World} (hL : Laid w0) : MemoAll w0 ms34 := memo_step hL (all33 hL) k34
theorem all35 {w0 : World} (hL : Laid w0) : MemoAll w0 ms35 := memo_step hL (all34 hL) k35
theorem all36 {w0 : World} (hL : Laid w0) : MemoAll w0 ms36 := memo_step hL (all35 hL) k36
theorem all37 {w0 : World} (hL : Laid w0) : MemoAll w0 ms37 := memo_step hL (all36 hL) k37
theorem all38 {w0 : World} (hL : Laid w0) : MemoAll w0 ms38 := memo_step hL (all37 hL) k38
theorem all39 {w0 : World} (hL : Laid w0) : MemoAll w0 ms39 := memo_step hL (all38 hL) k39
theorem all40 {w0 : World} (hL : Laid w0) : MemoAll w0 ms40 := memo_step hL (all39 hL) k40
theorem all41 {w0 : World} (hL : Laid w0) : MemoAll w0 ms41 := memo_step hL (all40 hL) k41
theorem all42 {w0 : World} (hL : Laid w0) : MemoAll w0 ms42 := memo_step hL (all41 hL) k42
theorem all43 {w0 : World} (hL : Laid w0) : MemoAll w0 ms43 := memo_step hL (all42 hL) k43
theorem all44 {w0 : World} (hL : Laid w0) : MemoAll w0 ms44 := memo_step hL (all43 hL) k44
theorem all45 {w0 : World} (hL : Laid w0) : MemoAll w0 ms45 := memo_step hL (all44 hL) k45
theorem all46 {w0 : World} (hL : Laid w0) : MemoAll w0 ms46 := memo_step hL (all45 hL) k46
theorem all47 {w0 : World} (hL : Laid w0) : MemoAll w0 ms47 := memo_step hL (all46 hL) k47
theorem all48 {w0 : World} (hL : Laid w0) : MemoAll w0 ms48 := memo_step hL (all47 hL) k48
theorem all49 {w0 : World} (hL : Laid w0) : MemoAll w0 ms49 := memo_step hL (all48 hL) k49
theorem all50 {w0 : World} (hL : Laid w0) : MemoAll w0 ms50 := memo_step hL (all49 hL) k50
theorem all51 {w0 : World} (hL : Laid w0) : MemoAll w0 ms51 := memo_step hL (all50 hL) k51
theorem all52 {w0 : World} (hL : Laid w0) : MemoAll w0 ms52 := memo_step hL (all51 hL) k52
theorem all53 {w0 : World} (hL : Laid w0) : MemoAll w0 ms53 := memo_step hL (all52 hL) k53
theorem all54 {w0 : World} (hL : Laid w0) : MemoAll w0 ms54 := memo_step hL (all53 hL) k54
theorem all55 {w0 : World} (hL : Laid w0) : MemoAll w0 ms55 := memo_step hL (all54 hL) k55
theorem all56 {w0 : World} (hL : Laid w0) : MemoAll w0 ms56 := memo_step hL (all55 hL) k56
theorem all57 {w0 : World} (hL : Laid w0) : MemoAll w0 ms57 := memo_step hL (all56 hL) k57
theorem all58 {w0 : World} (hL : Laid w0) : MemoAll w0 ms58 := memo_step hL (all57 hL) k58
theorem all59 {w0 : World} (hL : Laid w0) : MemoAll w0 ms59 := memo_step hL (all58 hL) k59
theorem all60 {w0 : World} (hL : Laid w0) : MemoAll w0 ms60 := memo_step hL (all59 hL) k60
theorem all61 {w0 : World} (hL : Laid w0) : MemoAll w0 ms61 := memo_step hL (all60 hL) k61
theorem all62 {w0 : World} (hL : Laid w0) : MemoAll w0 ms62 := memo_step hL (all61 hL) k62
theorem all63 {w0 : World} (hL : Laid w0) : MemoAll w0 ms63 := memo_step hL (all62 hL) k63
theorem all64 {w0 : World} (hL : Laid w0) : MemoAll w0 ms64 := memo_step hL (all63 hL) k64
theorem all65 {w0 : World} (hL : Laid w0) : MemoAll w0 ms65 := memo_step hL (all64 hL) k65
theorem all66 {w0 : World} (hL : Laid w0) : MemoAll w0 ms66 := memo_step hL (all65 hL) k66
theorem all67 {w0 : World} (hL : Laid w0) : MemoAll w0 ms67 := memo_step hL (all66 hL) k67
theorem all68 {w0 : World} (hL : Laid w0) : MemoAll w0 ms68 := memo_step hL (all67 hL) k68
theorem all69 {w0 : World} (hL : Laid w0) : MemoAll w0 ms69 := memo_step hL (all68 hL) k69
theorem all70 {w0 : World} (hL : Laid w0) : MemoAll w0 ms70 := memo_step hL (all69 hL) k70
theorem all71 {w0 : World} (hL : Laid w0) : MemoAll w0 ms71 := memo_step hL (all70 hL) k71
theorem all72 {w0 : World} (hL : Laid w0) : MemoAll w0 ms72 := memo_step hL (all71 hL) k72
theorem all73 {w0 : World} (hL : Laid w0) : MemoAll w0 ms73 := memo_step hL (all72 hL) k73
theorem all74 {w0 : World} (hL : Laid w0) : MemoAll w0 ms74 := memo_step hL (all73 hL) k74
theorem all75 {w0 : World} (hL : Laid w0) : MemoAll w0 ms75 := memo_step hL (all74 hL) k75
theorem all76 {w0 : World} (hL : Laid w0) : MemoAll w0 ms76 := memo_step hL (all75 hL) k76
theorem all77 {w0 : World} (hL : Laid w0) : MemoAll w0 ms77 := memo_step hL (all76 hL) k77
theorem all78 {w0 : World} (hL : Laid w0) : MemoAll w0 ms78 := memo_step hL (all77 hL) k78
theorem all79 {w0 : World} (hL : Laid w0) : MemoAll w0 ms79 := memo_step hL (all78 hL) k79
theorem all80 {w0 : World} (hL : Laid w0) : MemoAll w0 ms80 := memo_step hL (all79 hL) k80
theorem all81 {w0 : World} (hL : Laid w0) : MemoAll w0 ms81 := memo_step hL (all80 hL) k81
theorem all82 {w0 : World} (hL : Laid w0) : MemoAll w0 ms82 := memo_step hL (all81 hL) k82
theorem all83 {w0 : World} (hL : Laid w0) : MemoAll w0 ms83 := memo_step hL (all82 hL) k83
theorem all84 {w0 : World} (hL : Laid w0) : MemoAll w0 ms84 := memo_step hL (all83 hL) k84
theorem all85 {w0 : World} (hL : Laid w0) : MemoAll w0 ms85 := memo_step hL (all84 hL) k85
theorem all86 {w0 : World} (hL : Laid w0) : MemoAll w0 ms86 := memo_step hL (all85 hL) k86
theorem all87 {w0 : World} (hL : Laid w0) : MemoAll w0 ms87 := memo_step hL (all86 hL) k87
theorem all88 {w0 : World} (hL : Laid w0) : MemoAll w0 ms88 := memo_step hL (all87 hL) k88
theorem all89 {w0 : World} (hL : Laid w0) : MemoAll w0 ms89 := memo_step hL (all88 hL) k89
theorem all90 {w0 : World} (hL : Laid w0) : MemoAll w0 ms90 := memo_step hL (all89 hL) k90
theorem all91 {w0 : World} (hL : Laid w0) : MemoAll w0 ms91 := memo_step hL (all90 hL) k91
theorem all92 {w0 : World} (hL : Laid w0) : MemoAll w0 ms92 := memo_step hL (all91 hL) k92
theorem all93 {w0 : World} (hL : Laid w0) : MemoAll w0 ms93 := memo_step hL (all92 hL) k93
theorem all94 {w0 : World} (hL : Laid w0) : MemoAll w0 ms94 := memo_step hL (all93 hL) k94
theorem all95 {w0 : World} (hL : Laid w0) : MemoAll w0 ms95 := memo_step hL (all94 hL) k95
theorem all96 {w0 : World} (hL : Laid w0) : MemoAll w0 ms96 := memo_step hL (all95 hL) k96
theorem all97 {w0 : World} (hL : Laid w0) : MemoAll w0 ms97 := memo_step hL (all96 hL) k97
theorem all98 {w0 : World} (hL : Laid w0) : MemoAll w0 ms98 := memo_step hL (all97 hL) k98
theorem allKnown {w0 : World} (hL : Laid w0) : MemoAll w0 ms98 := all98 hL
end Go.Proofs.YtefmckneohhijaaGreatDoor

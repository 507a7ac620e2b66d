/- The tables of this seat's program, in V2's words. Printed by gen_ty.py. -/
import Derived.Test.YtpomedigibbeeaaGreatDoorRows
import Derived.Test.YtpomedigibbeeaaGreatDoorV9
import Derived.Test.YtpomedigibbeeaaGreatDoorW3
import Derived.KernelRfl
namespace Go.Proofs.YtpomedigibbeeaaGreatDoor
open Go.V
set_option maxRecDepth 100000
@[go_sem] theorem tn1:tn Tryz.prog 1=some 1:=by kernel_rfl
@[go_sem] theorem tb1:tb Tryz.prog 1=some 8:=by kernel_rfl
@[go_sem] theorem ta1:ta Tryz.prog 1=some false:=by kernel_rfl
@[go_sem] theorem tz1:tz Tryz.prog 1=some [.nilFunc]:=by kernel_rfl
@[go_sem] theorem CY:tb Tryz.prog 2=some 8:=by kernel_rfl
@[go_sem] theorem tn3:tn Tryz.prog 3=some 1:=by kernel_rfl
@[go_sem] theorem tb3:tb Tryz.prog 3=some 8:=by kernel_rfl
@[go_sem] theorem ta3:ta Tryz.prog 3=some false:=by kernel_rfl
@[go_sem] theorem tz3:tz Tryz.prog 3=some [.int .i64 0]:=by kernel_rfl
@[go_sem] theorem Zot:KA Tryz.prog 3=some .i64:=by kernel_rfl
@[go_sem] theorem tn4:tn Tryz.prog 4=some 1:=by kernel_rfl
@[go_sem] theorem tb4:tb Tryz.prog 4=some 1:=by kernel_rfl
@[go_sem] theorem ta4:ta Tryz.prog 4=some false:=by kernel_rfl
@[go_sem] theorem Wh:tn Tryz.prog 5=some 1:=by kernel_rfl
@[go_sem] theorem Va:tb Tryz.prog 5=some 1:=by kernel_rfl
@[go_sem] theorem ta5:ta Tryz.prog 5=some false:=by kernel_rfl
@[go_sem] theorem Vb:tz Tryz.prog 5=some [.int .u8 0]:=by kernel_rfl
@[go_sem] theorem Zov:KA Tryz.prog 5=some .u8:=by kernel_rfl
@[go_sem] theorem tb6:tb Tryz.prog 6=some 1:=by kernel_rfl
@[go_sem] theorem ZiP:Yz Tryz.prog 22=none:=by kernel_rfl
@[go_sem] theorem Zox:Jf Tryz.prog 22=some 69:=by kernel_rfl
@[go_sem] theorem ZiQ:Yz Tryz.prog 23=none:=by kernel_rfl
@[go_sem] theorem jW:Jf Tryz.prog 23=some 36:=by kernel_rfl
@[go_sem] theorem ZiR:Yz Tryz.prog 28=some (5,4):=by kernel_rfl
@[go_sem] theorem Zoy:Jf Tryz.prog 28=none:=by kernel_rfl
@[go_sem] theorem Ztl:tn Tryz.prog 29=some 1:=by kernel_rfl
@[go_sem] theorem Ztm:ta Tryz.prog 29=some false:=by kernel_rfl
@[go_sem] theorem ZiS:Yz Tryz.prog 29=none:=by kernel_rfl
@[go_sem] theorem Zcj:Jf Tryz.prog 29=some 37:=by kernel_rfl
@[go_sem] theorem ZiT:Yz Tryz.prog 30=some (5,3):=by kernel_rfl
@[go_sem] theorem Zoz:Jf Tryz.prog 30=none:=by kernel_rfl
@[go_sem] theorem Ztn:tn Tryz.prog 31=some 1:=by kernel_rfl
@[go_sem] theorem Zto:ta Tryz.prog 31=some false:=by kernel_rfl
@[go_sem] theorem Zck:Jf Tryz.prog 31=some 42:=by kernel_rfl
@[go_sem] theorem Ztp:tn Tryz.prog 33=some 13:=by kernel_rfl
@[go_sem] theorem Ztq:ta Tryz.prog 33=some true:=by kernel_rfl
@[go_sem] theorem Ztr:tz Tryz.prog 33=some [.int .i64 0,.bool false,.bool false,.bool false,.bool false,.bool false,.slice none 0 0,.int .i64 0,.int .i64 0,.int .i64 0,.int .i64 0,.int .i64 0,.slice none 0 0]:=by kernel_rfl
@[go_sem] theorem ZiU:tf Tryz.prog 33 0=some 0:=by kernel_rfl
@[go_sem] theorem ZiV:tf Tryz.prog 33 1=some 1:=by kernel_rfl
@[go_sem] theorem ZiW:tf Tryz.prog 33 2=some 6:=by kernel_rfl
@[go_sem] theorem ZiX:tf Tryz.prog 33 3=some 7:=by kernel_rfl
@[go_sem] theorem ZiY:tf Tryz.prog 33 4=some 12:=by kernel_rfl
@[go_sem] theorem ZoA:SR Tryz.prog 33=some [(0,1),(1,5),(6,1),(7,5),(12,1)]:=by kernel_rfl
@[go_sem] theorem ZiZ:Yz Tryz.prog 33=none:=by kernel_rfl
@[go_sem] theorem Zts:tn Tryz.prog 34=some 1:=by kernel_rfl
@[go_sem] theorem Ztt:ta Tryz.prog 34=some false:=by kernel_rfl
@[go_sem] theorem Zi0:Yz Tryz.prog 34=none:=by kernel_rfl
@[go_sem] theorem Yt:Jf Tryz.prog 34=some 5:=by kernel_rfl
@[go_sem] theorem Zi1:Q6 Tryz.prog 34=false:=by kernel_rfl
@[go_sem] theorem xj:tn Tryz.prog 36=some 5:=by kernel_rfl
@[go_sem] theorem xm:tb Tryz.prog 36=some 56:=by kernel_rfl
@[go_sem] theorem Ztu:ta Tryz.prog 36=some true:=by kernel_rfl
@[go_sem] theorem xo:tz Tryz.prog 36=some [.int .i64 0,.int .i64 0,.int .i64 0,.int .i64 0,.slice none 0 0]:=by kernel_rfl
@[go_sem] theorem Zi2:tf Tryz.prog 36 0=some 0:=by kernel_rfl
@[go_sem] theorem Zi3:tf Tryz.prog 36 1=some 1:=by kernel_rfl
@[go_sem] theorem Zi4:tf Tryz.prog 36 2=some 2:=by kernel_rfl
@[go_sem] theorem Zi5:tf Tryz.prog 36 3=some 3:=by kernel_rfl
@[go_sem] theorem Zi6:tf Tryz.prog 36 4=some 4:=by kernel_rfl
@[go_sem] theorem ZoB:SR Tryz.prog 36=some [(0,1),(1,1),(2,1),(3,1),(4,1)]:=by kernel_rfl
@[go_sem] theorem Zi7:Yz Tryz.prog 36=none:=by kernel_rfl
@[go_sem] theorem Zi8:tn Tryz.prog 37=some 1:=by kernel_rfl
@[go_sem] theorem Zi9:tb Tryz.prog 37=some 24:=by kernel_rfl
@[go_sem] theorem Ztv:ta Tryz.prog 37=some false:=by kernel_rfl
@[go_sem] theorem Zja:tz Tryz.prog 37=some [.slice none 0 0]:=by kernel_rfl
@[go_sem] theorem Zjb:Yz Tryz.prog 37=none:=by kernel_rfl
@[go_sem] theorem FL:Jf Tryz.prog 37=some 49:=by kernel_rfl
@[go_sem] theorem Zjc:Q6 Tryz.prog 37=false:=by kernel_rfl
@[go_sem] theorem Ztw:tn Tryz.prog 40=some 2:=by kernel_rfl
@[go_sem] theorem Ztx:ta Tryz.prog 40=some true:=by kernel_rfl
@[go_sem] theorem Zty:tz Tryz.prog 40=some [.int .i64 0,.int .i64 0]:=by kernel_rfl
@[go_sem] theorem ZoC:SR Tryz.prog 40=some [(0,1),(1,1)]:=by kernel_rfl
@[go_sem] theorem ZoD:ug Tryz.prog 40=false:=by kernel_rfl
@[go_sem] theorem Zfv:flat Tryz.prog 6 40=some [some .i64,some .i64]:=by kernel_rfl
@[go_sem] theorem Zjd:Yz Tryz.prog 40=none:=by kernel_rfl
@[go_sem] theorem Zje:tn Tryz.prog 42=some 5:=by kernel_rfl
@[go_sem] theorem Zjf:tb Tryz.prog 42=some 40:=by kernel_rfl
@[go_sem] theorem Zjg:tz Tryz.prog 42=some [.int .i64 0,.int .i64 0,.int .i64 0,.int .i64 0,.int .i64 0]:=by kernel_rfl
@[go_sem] theorem ZoE:SR Tryz.prog 42=some [(0,1),(1,1),(2,1),(3,2)]:=by kernel_rfl
@[go_sem] theorem Zjh:Yz Tryz.prog 42=none:=by kernel_rfl
@[go_sem] theorem xp:tn Tryz.prog 49=some 5:=by kernel_rfl
@[go_sem] theorem Zcl:tb Tryz.prog 49=some 40:=by kernel_rfl
@[go_sem] theorem Ztz:ta Tryz.prog 49=some true:=by kernel_rfl
@[go_sem] theorem jX:tz Tryz.prog 49=some [.int .i64 0,.int .i64 0,.int .i64 0,.int .i64 0,.int .i64 0]:=by kernel_rfl
@[go_sem] theorem Zji:tf Tryz.prog 49 0=some 0:=by kernel_rfl
@[go_sem] theorem Zjj:tf Tryz.prog 49 1=some 1:=by kernel_rfl
@[go_sem] theorem Zjk:tf Tryz.prog 49 2=some 2:=by kernel_rfl
@[go_sem] theorem Zjl:tf Tryz.prog 49 3=some 3:=by kernel_rfl
@[go_sem] theorem Zjm:tf Tryz.prog 49 4=some 4:=by kernel_rfl
@[go_sem] theorem ZoF:SR Tryz.prog 49=some [(0,1),(1,1),(2,1),(3,1),(4,1)]:=by kernel_rfl
@[go_sem] theorem ZoG:ug Tryz.prog 49=false:=by kernel_rfl
@[go_sem] theorem Zfw:flat Tryz.prog 6 49=some [some .i64,some .i64,some .i64,some .i64,some .i64]:=by kernel_rfl
@[go_sem] theorem Zjn:Yz Tryz.prog 49=none:=by kernel_rfl
@[go_sem] theorem ZtA:tn Tryz.prog 58=some 8:=by kernel_rfl
@[go_sem] theorem ZtB:ta Tryz.prog 58=some true:=by kernel_rfl
@[go_sem] theorem Zjo:Yz Tryz.prog 58=some (8,3):=by kernel_rfl
@[go_sem] theorem ZoH:Jf Tryz.prog 58=none:=by kernel_rfl
@[go_sem] theorem Zjp:Q6 Tryz.prog 58=false:=by kernel_rfl
@[go_sem] theorem Zjq:Yz Tryz.prog 59=some (8,40):=by kernel_rfl
@[go_sem] theorem ZoI:Jf Tryz.prog 59=none:=by kernel_rfl
@[go_sem] theorem ZtC:tn Tryz.prog 60=some 8:=by kernel_rfl
@[go_sem] theorem ZtD:ta Tryz.prog 60=some true:=by kernel_rfl
@[go_sem] theorem ZtE:tz Tryz.prog 60=some [.bool false,.bool false,.bool false,.bool false,.bool false,.bool false,.bool false,.bool false]:=by kernel_rfl
@[go_sem] theorem ZoJ:SR Tryz.prog 60=none:=by kernel_rfl
@[go_sem] theorem Zjr:Yz Tryz.prog 60=some (8,4):=by kernel_rfl
@[go_sem] theorem ZoK:Jf Tryz.prog 60=none:=by kernel_rfl
@[go_sem] theorem Zjs:Q6 Tryz.prog 60=false:=by kernel_rfl
@[go_sem] theorem ZtF:tn Tryz.prog 62=some 40:=by kernel_rfl
@[go_sem] theorem ZtG:ta Tryz.prog 62=some true:=by kernel_rfl
@[go_sem] theorem ZtH:tz Tryz.prog 62=some [.int .i64 0,.int .i64 0,.int .i64 0,.int .i64 0,.int .i64 0,.int .i64 0,.int .i64 0,.int .i64 0,.int .i64 0,.int .i64 0,.int .i64 0,.int .i64 0,.int .i64 0,.int .i64 0,.int .i64 0,.int .i64 0,.int .i64 0,.int .i64 0,.int .i64 0,.int .i64 0,.int .i64 0,.int .i64 0,.int .i64 0,.int .i64 0,.int .i64 0,.int .i64 0,.int .i64 0,.int .i64 0,.int .i64 0,.int .i64 0,.int .i64 0,.int .i64 0,.bool false,.bool false,.bool false,.bool false,.bool false,.bool false,.bool false,.bool false]:=by kernel_rfl
@[go_sem] theorem Zjt:tf Tryz.prog 62 0=some 0:=by kernel_rfl
@[go_sem] theorem Zju:tf Tryz.prog 62 1=some 8:=by kernel_rfl
@[go_sem] theorem Zjv:tf Tryz.prog 62 2=some 16:=by kernel_rfl
@[go_sem] theorem Zjw:tf Tryz.prog 62 3=some 32:=by kernel_rfl
@[go_sem] theorem ZoL:SR Tryz.prog 62=some [(0,8),(8,8),(16,16),(32,8)]:=by kernel_rfl
@[go_sem] theorem Zjx:Yz Tryz.prog 62=none:=by kernel_rfl
@[go_sem] theorem ZtI:tn Tryz.prog 69=some 5:=by kernel_rfl
@[go_sem] theorem ZtJ:ta Tryz.prog 69=some true:=by kernel_rfl
@[go_sem] theorem Zjy:tf Tryz.prog 69 0=some 0:=by kernel_rfl
@[go_sem] theorem Zjz:tf Tryz.prog 69 1=some 1:=by kernel_rfl
@[go_sem] theorem ZjA:tf Tryz.prog 69 2=some 2:=by kernel_rfl
@[go_sem] theorem ZjB:tf Tryz.prog 69 3=some 3:=by kernel_rfl
@[go_sem] theorem ZjC:tf Tryz.prog 69 4=some 4:=by kernel_rfl
@[go_sem] theorem ZtK:tn Tryz.prog 75=some 11:=by kernel_rfl
@[go_sem] theorem ZtL:ta Tryz.prog 75=some true:=by kernel_rfl
@[go_sem] theorem ZtM:tz Tryz.prog 75=some [.slice none 0 0,.int .i64 0,.int .i64 0,.bool false,.bool false,.bool false,.bool false,.bool false,.bool false,.bool false,.bool false]:=by kernel_rfl
@[go_sem] theorem ZjD:tf Tryz.prog 75 0=some 0:=by kernel_rfl
@[go_sem] theorem ZjE:tf Tryz.prog 75 1=some 1:=by kernel_rfl
@[go_sem] theorem ZjF:tf Tryz.prog 75 2=some 2:=by kernel_rfl
@[go_sem] theorem ZjG:tf Tryz.prog 75 3=some 3:=by kernel_rfl
@[go_sem] theorem ZoM:SR Tryz.prog 75=some [(0,1),(1,1),(2,1),(3,8)]:=by kernel_rfl
@[go_sem] theorem ZjH:Yz Tryz.prog 75=none:=by kernel_rfl
@[go_sem] theorem ZtN:tn Tryz.prog 79=some 3:=by kernel_rfl
@[go_sem] theorem ZtO:ta Tryz.prog 79=some true:=by kernel_rfl
@[go_sem] theorem ZtP:tz Tryz.prog 79=some [.int .i64 0,.int .i64 0,.int .i64 0]:=by kernel_rfl
@[go_sem] theorem ZjI:tf Tryz.prog 79 0=some 0:=by kernel_rfl
@[go_sem] theorem ZjJ:tf Tryz.prog 79 1=some 1:=by kernel_rfl
@[go_sem] theorem ZjK:tf Tryz.prog 79 2=some 2:=by kernel_rfl
@[go_sem] theorem ZoN:SR Tryz.prog 79=some [(0,1),(1,1),(2,1)]:=by kernel_rfl
@[go_sem] theorem ZjL:Yz Tryz.prog 79=none:=by kernel_rfl
@[go_sem] theorem ZtQ:tn Tryz.prog 91=some 1:=by kernel_rfl
@[go_sem] theorem ZtR:ta Tryz.prog 91=some false:=by kernel_rfl
@[go_sem] theorem ZtS:tn Tryz.prog 94=some 1:=by kernel_rfl
@[go_sem] theorem ZtT:ta Tryz.prog 94=some false:=by kernel_rfl
@[go_sem] theorem ZjM:Yz Tryz.prog 94=none:=by kernel_rfl
@[go_sem] theorem Zcm:Jf Tryz.prog 94=some 98:=by kernel_rfl
@[go_sem] theorem ZtU:tn Tryz.prog 95=some 1:=by kernel_rfl
@[go_sem] theorem ZtV:ta Tryz.prog 95=some false:=by kernel_rfl
@[go_sem] theorem ZjN:Yz Tryz.prog 95=none:=by kernel_rfl
@[go_sem] theorem ak:Jf Tryz.prog 95=some 148:=by kernel_rfl
@[go_sem] theorem ZjO:Q6 Tryz.prog 95=false:=by kernel_rfl
@[go_sem] theorem ZtW:tz Tryz.prog 97=some [.slice none 0 0,.slice none 0 0,.int .i64 0,.bool false,.bool false,.bool false,.bool false,.bool false,.slice none 0 0,.int .i64 0,.int .i64 0,.int .i64 0,.int .i64 0,.int .i64 0,.slice none 0 0]:=by kernel_rfl
@[go_sem] theorem ZjP:tf Tryz.prog 97 0=some 0:=by kernel_rfl
@[go_sem] theorem ZjQ:tf Tryz.prog 97 1=some 1:=by kernel_rfl
@[go_sem] theorem ZjR:tf Tryz.prog 97 2=some 2:=by kernel_rfl
@[go_sem] theorem ZoO:SR Tryz.prog 97=some [(0,1),(1,1),(2,13)]:=by kernel_rfl
@[go_sem] theorem ZjS:Yz Tryz.prog 97=none:=by kernel_rfl
@[go_sem] theorem ZjT:tn Tryz.prog 98=some 1:=by kernel_rfl
@[go_sem] theorem ZjU:tb Tryz.prog 98=some 8:=by kernel_rfl
@[go_sem] theorem ZtX:ta Tryz.prog 98=some false:=by kernel_rfl
@[go_sem] theorem ZjV:tz Tryz.prog 98=some [.pointer none]:=by kernel_rfl
@[go_sem] theorem ZoP:tn Tryz.prog 100=some 2:=by kernel_rfl
@[go_sem] theorem ZoQ:ta Tryz.prog 100=some true:=by kernel_rfl
@[go_sem] theorem ZoR:tz Tryz.prog 100=some [.slice none 0 0,.int .i64 0]:=by kernel_rfl
@[go_sem] theorem Zfx:tf Tryz.prog 100 0=some 0:=by kernel_rfl
@[go_sem] theorem Zfy:tf Tryz.prog 100 1=some 1:=by kernel_rfl
@[go_sem] theorem ZjW:SR Tryz.prog 100=some [(0,1),(1,1)]:=by kernel_rfl
@[go_sem] theorem Zfz:Yz Tryz.prog 100=none:=by kernel_rfl
@[go_sem] theorem ZoS:tn Tryz.prog 102=some 2:=by kernel_rfl
@[go_sem] theorem ZoT:ta Tryz.prog 102=some true:=by kernel_rfl
@[go_sem] theorem ZoU:tz Tryz.prog 102=some [.int .i64 0,.int .i64 0]:=by kernel_rfl
@[go_sem] theorem ZfA:tf Tryz.prog 102 0=some 0:=by kernel_rfl
@[go_sem] theorem ZfB:tf Tryz.prog 102 1=some 1:=by kernel_rfl
@[go_sem] theorem ZjX:SR Tryz.prog 102=some [(0,1),(1,1)]:=by kernel_rfl
@[go_sem] theorem ZjY:ug Tryz.prog 102=false:=by kernel_rfl
@[go_sem] theorem Zcn:flat Tryz.prog 6 102=some [some .i64,some .i64]:=by kernel_rfl
@[go_sem] theorem ZfC:Yz Tryz.prog 102=none:=by kernel_rfl
@[go_sem] theorem Zco:tn Tryz.prog 103=some 1:=by kernel_rfl
@[go_sem] theorem Zcp:tb Tryz.prog 103=some 24:=by kernel_rfl
@[go_sem] theorem ZoV:ta Tryz.prog 103=some false:=by kernel_rfl
@[go_sem] theorem Zcq:tz Tryz.prog 103=some [.slice none 0 0]:=by kernel_rfl
@[go_sem] theorem ZfD:Yz Tryz.prog 103=none:=by kernel_rfl
@[go_sem] theorem Ty:Jf Tryz.prog 103=some 146:=by kernel_rfl
@[go_sem] theorem ZfE:Q6 Tryz.prog 103=false:=by kernel_rfl
@[go_sem] theorem ZoW:tn Tryz.prog 105=some 3:=by kernel_rfl
@[go_sem] theorem ZoX:ta Tryz.prog 105=some true:=by kernel_rfl
@[go_sem] theorem ZoY:tz Tryz.prog 105=some [.int .i64 0,.int .i64 0,.slice none 0 0]:=by kernel_rfl
@[go_sem] theorem ZfF:tf Tryz.prog 105 0=some 0:=by kernel_rfl
@[go_sem] theorem ZfG:tf Tryz.prog 105 1=some 2:=by kernel_rfl
@[go_sem] theorem ZjZ:SR Tryz.prog 105=some [(0,2),(2,1)]:=by kernel_rfl
@[go_sem] theorem ZfH:Yz Tryz.prog 105=none:=by kernel_rfl
@[go_sem] theorem ZoZ:tn Tryz.prog 106=some 1:=by kernel_rfl
@[go_sem] theorem Zo0:ta Tryz.prog 106=some false:=by kernel_rfl
@[go_sem] theorem Zo1:tn Tryz.prog 107=some 1:=by kernel_rfl
@[go_sem] theorem Zo2:ta Tryz.prog 107=some false:=by kernel_rfl
@[go_sem] theorem Zo3:tz Tryz.prog 109=some [.int .i64 0,.bool false,.slice none 0 0,.int .i64 0,.int .i64 0,.int .i64 0,.slice none 0 0,.int .i64 0,.int .i64 0,.pointer none,.map none,.slice none 0 0,.int .i64 0,.int .i64 0,.int .i64 0,.int .i64 0,.int .i64 0,.int .i64 0,.int .i64 0,.int .i64 0,.int .i64 0,.int .i64 0,.int .i64 0,.int .i64 0,.int .i64 0,.int .i64 0,.int .i64 0,.int .i64 0,.int .i64 0,.int .i64 0,.int .i64 0,.int .i64 0,.int .i64 0,.int .i64 0,.int .i64 0,.int .i64 0,.int .i64 0,.int .i64 0,.int .i64 0,.int .i64 0,.int .i64 0,.int .i64 0,.int .i64 0,.int .i64 0,.bool false,.bool false,.bool false,.bool false,.bool false,.bool false,.bool false,.bool false,.slice none 0 0,.slice none 0 0,.slice none 0 0,.nilFunc,.int .i64 0]:=by kernel_rfl
@[go_sem] theorem ZfI:tf Tryz.prog 109 0=some 0:=by kernel_rfl
@[go_sem] theorem ZfJ:tf Tryz.prog 109 1=some 1:=by kernel_rfl
@[go_sem] theorem ZfK:tf Tryz.prog 109 2=some 2:=by kernel_rfl
@[go_sem] theorem ZfL:tf Tryz.prog 109 3=some 4:=by kernel_rfl
@[go_sem] theorem ZfM:tf Tryz.prog 109 4=some 7:=by kernel_rfl
@[go_sem] theorem ZfN:tf Tryz.prog 109 5=some 9:=by kernel_rfl
@[go_sem] theorem ZfO:tf Tryz.prog 109 6=some 10:=by kernel_rfl
@[go_sem] theorem ZfP:tf Tryz.prog 109 7=some 11:=by kernel_rfl
@[go_sem] theorem ZfQ:tf Tryz.prog 109 8=some 12:=by kernel_rfl
@[go_sem] theorem ZfR:tf Tryz.prog 109 9=some 52:=by kernel_rfl
@[go_sem] theorem Zcr:tf Tryz.prog 109 10=some 53:=by kernel_rfl
@[go_sem] theorem Zcs:tf Tryz.prog 109 11=some 54:=by kernel_rfl
@[go_sem] theorem Zct:tf Tryz.prog 109 12=some 55:=by kernel_rfl
@[go_sem] theorem Zcu:tf Tryz.prog 109 13=some 56:=by kernel_rfl
@[go_sem] theorem Zj0:SR Tryz.prog 109=some [(0,1),(1,1),(2,2),(4,3),(7,2),(9,1),(10,1),(11,1),(12,40),(52,1),(53,1),(54,1),(55,1),(56,1)]:=by kernel_rfl
@[go_sem] theorem ZfS:Yz Tryz.prog 109=none:=by kernel_rfl
@[go_sem] theorem ZfT:KA Tryz.prog 113=some .u64:=by kernel_rfl
@[go_sem] theorem Zo4:tn Tryz.prog 120=some 1:=by kernel_rfl
@[go_sem] theorem Zo5:ta Tryz.prog 120=some false:=by kernel_rfl
@[go_sem] theorem Zo6:tn Tryz.prog 121=some 5:=by kernel_rfl
@[go_sem] theorem Zo7:ta Tryz.prog 121=some true:=by kernel_rfl
@[go_sem] theorem Zo8:tz Tryz.prog 121=some [.pointer none,.pointer none,.pointer none,.pointer none,.pointer none]:=by kernel_rfl
@[go_sem] theorem Zj1:SR Tryz.prog 121=none:=by kernel_rfl
@[go_sem] theorem ZfU:Yz Tryz.prog 121=some (5,120):=by kernel_rfl
@[go_sem] theorem ZfV:Q6 Tryz.prog 121=false:=by kernel_rfl
@[go_sem] theorem Zo9:tz Tryz.prog 125=some [.int .i64 0,.int .i64 0,.int .i64 0,.int .i64 0]:=by kernel_rfl
@[go_sem] theorem Zj2:SR Tryz.prog 125=none:=by kernel_rfl
@[go_sem] theorem ZfW:Yz Tryz.prog 125=some (4,3):=by kernel_rfl
@[go_sem] theorem Zj3:Jf Tryz.prog 125=none:=by kernel_rfl
@[go_sem] theorem ZfX:Q6 Tryz.prog 125=false:=by kernel_rfl
@[go_sem] theorem Zpa:tz Tryz.prog 133=some [.int .i64 0,.int .i64 0,.int .i64 0,.int .i64 0,.int .i64 0]:=by kernel_rfl
@[go_sem] theorem ZfY:tf Tryz.prog 133 0=some 0:=by kernel_rfl
@[go_sem] theorem ZfZ:tf Tryz.prog 133 1=some 1:=by kernel_rfl
@[go_sem] theorem Zf0:tf Tryz.prog 133 2=some 2:=by kernel_rfl
@[go_sem] theorem Zf1:tf Tryz.prog 133 3=some 3:=by kernel_rfl
@[go_sem] theorem Zf2:tf Tryz.prog 133 4=some 4:=by kernel_rfl
@[go_sem] theorem Zj4:SR Tryz.prog 133=some [(0,1),(1,1),(2,1),(3,1),(4,1)]:=by kernel_rfl
@[go_sem] theorem Zf3:Yz Tryz.prog 133=none:=by kernel_rfl
@[go_sem] theorem Zf4:Yz Tryz.prog 135=none:=by kernel_rfl
@[go_sem] theorem Zj5:Jf Tryz.prog 135=some 140:=by kernel_rfl
@[go_sem] theorem Zpb:tn Tryz.prog 140=some 2:=by kernel_rfl
@[go_sem] theorem Zpc:ta Tryz.prog 140=some true:=by kernel_rfl
@[go_sem] theorem Zpd:tz Tryz.prog 140=some [.pointer none,.int .i64 0]:=by kernel_rfl
@[go_sem] theorem Zf5:tf Tryz.prog 140 0=some 0:=by kernel_rfl
@[go_sem] theorem Zf6:tf Tryz.prog 140 1=some 1:=by kernel_rfl
@[go_sem] theorem Zj6:SR Tryz.prog 140=some [(0,1),(1,1)]:=by kernel_rfl
@[go_sem] theorem Zf7:Yz Tryz.prog 140=none:=by kernel_rfl
@[go_sem] theorem RX:tn Tryz.prog 146=some 8:=by kernel_rfl
@[go_sem] theorem ao:tb Tryz.prog 146=some 64:=by kernel_rfl
@[go_sem] theorem Zpe:ta Tryz.prog 146=some true:=by kernel_rfl
@[go_sem] theorem aq:tz Tryz.prog 146=some [.int .i64 0,.int .i64 0,.int .i64 0,.int .i64 0,.int .i64 0,.int .i64 0,.int .i64 0,.int .i64 0]:=by kernel_rfl
@[go_sem] theorem Zf8:tf Tryz.prog 146 0=some 0:=by kernel_rfl
@[go_sem] theorem Zf9:tf Tryz.prog 146 1=some 1:=by kernel_rfl
@[go_sem] theorem Zga:tf Tryz.prog 146 2=some 3:=by kernel_rfl
@[go_sem] theorem Zj7:SR Tryz.prog 146=some [(0,1),(1,2),(3,5)]:=by kernel_rfl
@[go_sem] theorem Zj8:ug Tryz.prog 146=false:=by kernel_rfl
@[go_sem] theorem Zcv:flat Tryz.prog 6 146=some [some .i64,some .i64,some .i64,some .i64,some .i64,some .i64,some .i64,some .i64]:=by kernel_rfl
@[go_sem] theorem Zgb:Yz Tryz.prog 146=none:=by kernel_rfl
@[go_sem] theorem jY:tn Tryz.prog 148=some 14:=by kernel_rfl
@[go_sem] theorem uC:tb Tryz.prog 148=some 128:=by kernel_rfl
@[go_sem] theorem Zpf:ta Tryz.prog 148=some true:=by kernel_rfl
@[go_sem] theorem ar:tz Tryz.prog 148=some [.int .i64 0,.int .i64 0,.int .i64 0,.int .i64 0,.int .i64 0,.int .i64 0,.int .i64 0,.int .i64 0,.int .i64 0,.int .i64 0,.int .i64 0,.int .i64 0,.int .i64 0,.slice none 0 0]:=by kernel_rfl
@[go_sem] theorem Zgc:tf Tryz.prog 148 0=some 0:=by kernel_rfl
@[go_sem] theorem Zgd:tf Tryz.prog 148 1=some 1:=by kernel_rfl
@[go_sem] theorem Zge:tf Tryz.prog 148 2=some 2:=by kernel_rfl
@[go_sem] theorem Zgf:tf Tryz.prog 148 3=some 3:=by kernel_rfl
@[go_sem] theorem Zgg:tf Tryz.prog 148 4=some 5:=by kernel_rfl
@[go_sem] theorem Zgh:tf Tryz.prog 148 5=some 13:=by kernel_rfl
@[go_sem] theorem Zj9:SR Tryz.prog 148=some [(0,1),(1,1),(2,1),(3,2),(5,8),(13,1)]:=by kernel_rfl
@[go_sem] theorem Zgi:Yz Tryz.prog 148=none:=by kernel_rfl
@[go_sem] theorem Zpg:tn Tryz.prog 166=some 1:=by kernel_rfl
@[go_sem] theorem Zph:ta Tryz.prog 166=some false:=by kernel_rfl
@[go_sem] theorem Zpi:tn Tryz.prog 167=some 1:=by kernel_rfl
@[go_sem] theorem Zpj:ta Tryz.prog 167=some false:=by kernel_rfl
@[go_sem] theorem Zpk:tz Tryz.prog 169=some [.int .i64 0,.int .i64 0,.map none,.bool false,.map none,.map none]:=by kernel_rfl
@[go_sem] theorem Zgj:tf Tryz.prog 169 0=some 0:=by kernel_rfl
@[go_sem] theorem Zgk:tf Tryz.prog 169 1=some 2:=by kernel_rfl
@[go_sem] theorem Zgl:tf Tryz.prog 169 2=some 3:=by kernel_rfl
@[go_sem] theorem Zgm:tf Tryz.prog 169 3=some 4:=by kernel_rfl
@[go_sem] theorem Zgn:tf Tryz.prog 169 4=some 5:=by kernel_rfl
@[go_sem] theorem Zka:SR Tryz.prog 169=some [(0,2),(2,1),(3,1),(4,1),(5,1)]:=by kernel_rfl
@[go_sem] theorem Zgo:Yz Tryz.prog 169=none:=by kernel_rfl
@[go_sem] theorem Zpl:tn Tryz.prog 180=some 64:=by kernel_rfl
@[go_sem] theorem Zpm:ta Tryz.prog 180=some true:=by kernel_rfl
@[go_sem] theorem Zpn:tz Tryz.prog 180=some [.int .u8 0,.int .u8 0,.int .u8 0,.int .u8 0,.int .u8 0,.int .u8 0,.int .u8 0,.int .u8 0,.int .u8 0,.int .u8 0,.int .u8 0,.int .u8 0,.int .u8 0,.int .u8 0,.int .u8 0,.int .u8 0,.int .u8 0,.int .u8 0,.int .u8 0,.int .u8 0,.int .u8 0,.int .u8 0,.int .u8 0,.int .u8 0,.int .u8 0,.int .u8 0,.int .u8 0,.int .u8 0,.int .u8 0,.int .u8 0,.int .u8 0,.int .u8 0,.int .u8 0,.int .u8 0,.int .u8 0,.int .u8 0,.int .u8 0,.int .u8 0,.int .u8 0,.int .u8 0,.int .u8 0,.int .u8 0,.int .u8 0,.int .u8 0,.int .u8 0,.int .u8 0,.int .u8 0,.int .u8 0,.int .u8 0,.int .u8 0,.int .u8 0,.int .u8 0,.int .u8 0,.int .u8 0,.int .u8 0,.int .u8 0,.int .u8 0,.int .u8 0,.int .u8 0,.int .u8 0,.int .u8 0,.int .u8 0,.int .u8 0,.int .u8 0]:=by kernel_rfl
@[go_sem] theorem Zgp:Yz Tryz.prog 180=some (64,5):=by kernel_rfl
@[go_sem] theorem Zkb:Jf Tryz.prog 180=none:=by kernel_rfl
@[go_sem] theorem Zgq:Q6 Tryz.prog 180=false:=by kernel_rfl
@[go_sem] theorem Zpo:tn Tryz.prog 182=some 1:=by kernel_rfl
@[go_sem] theorem Zpp:ta Tryz.prog 182=some false:=by kernel_rfl
@[go_sem] theorem Zgr:KA Tryz.prog 182=some .u32:=by kernel_rfl
@[go_sem] theorem Zpq:tn Tryz.prog 184=some 8:=by kernel_rfl
@[go_sem] theorem Zpr:ta Tryz.prog 184=some true:=by kernel_rfl
@[go_sem] theorem Zps:tz Tryz.prog 184=some [.int .u32 0,.int .u32 0,.int .u32 0,.int .u32 0,.int .u32 0,.int .u32 0,.int .u32 0,.int .u32 0]:=by kernel_rfl
@[go_sem] theorem Zkc:SR Tryz.prog 184=none:=by kernel_rfl
@[go_sem] theorem Zgs:Yz Tryz.prog 184=some (8,182):=by kernel_rfl
@[go_sem] theorem Zkd:Jf Tryz.prog 184=none:=by kernel_rfl
@[go_sem] theorem Zgt:Q6 Tryz.prog 184=false:=by kernel_rfl
@[go_sem] theorem Zpt:tn Tryz.prog 197=some 16:=by kernel_rfl
@[go_sem] theorem Zpu:ta Tryz.prog 197=some true:=by kernel_rfl
@[go_sem] theorem Zpv:tz Tryz.prog 197=some [.int .u32 0,.int .u32 0,.int .u32 0,.int .u32 0,.int .u32 0,.int .u32 0,.int .u32 0,.int .u32 0,.int .u32 0,.int .u32 0,.int .u32 0,.int .u32 0,.int .u32 0,.int .u32 0,.int .u32 0,.int .u32 0]:=by kernel_rfl
@[go_sem] theorem Zke:SR Tryz.prog 197=none:=by kernel_rfl
@[go_sem] theorem Zgu:Yz Tryz.prog 197=some (16,182):=by kernel_rfl
@[go_sem] theorem Zkf:Jf Tryz.prog 197=none:=by kernel_rfl
@[go_sem] theorem Zpw:tz Tryz.prog 201=some [.int .u32 0,.int .u32 0,.int .u32 0,.int .u32 0,.int .u32 0,.int .u32 0,.int .u32 0,.int .u32 0,.int .u32 0,.int .u32 0,.int .u32 0,.int .u32 0,.int .u32 0,.int .u32 0,.int .u32 0,.int .u32 0,.int .u32 0,.int .u32 0,.int .u32 0,.int .u32 0,.int .u32 0,.int .u32 0,.int .u32 0,.int .u32 0,.int .u32 0,.int .u32 0,.int .u32 0,.int .u32 0,.int .u32 0,.int .u32 0,.int .u32 0,.int .u32 0,.int .u32 0,.int .u32 0,.int .u32 0,.int .u32 0,.int .u32 0,.int .u32 0,.int .u32 0,.int .u32 0,.int .u32 0,.int .u32 0,.int .u32 0,.int .u32 0,.int .u32 0,.int .u32 0,.int .u32 0,.int .u32 0,.int .u32 0,.int .u32 0,.int .u32 0,.int .u32 0,.int .u32 0,.int .u32 0,.int .u32 0,.int .u32 0,.int .u32 0,.int .u32 0,.int .u32 0,.int .u32 0,.int .u32 0,.int .u32 0,.int .u32 0,.int .u32 0]:=by kernel_rfl
@[go_sem] theorem Zgv:Yz Tryz.prog 201=some (64,182):=by kernel_rfl
@[go_sem] theorem Zkg:Jf Tryz.prog 201=none:=by kernel_rfl
@[go_sem] theorem Zpx:tn Tryz.prog 205=some 0:=by kernel_rfl
@[go_sem] theorem Zpy:tz Tryz.prog 205=some []:=by kernel_rfl
@[go_sem] theorem Zkh:SR Tryz.prog 205=some []:=by kernel_rfl
@[go_sem] theorem Zgw:Yz Tryz.prog 205=none:=by kernel_rfl
@[go_sem] theorem Zpz:tz Tryz.prog 224=some [.int .i64 0,.int .i64 0,.int .i64 0]:=by kernel_rfl
@[go_sem] theorem Zki:SR Tryz.prog 224=none:=by kernel_rfl
@[go_sem] theorem Zgx:Yz Tryz.prog 224=some (3,3):=by kernel_rfl
@[go_sem] theorem Zgy:Q6 Tryz.prog 224=false:=by kernel_rfl
@[go_sem] theorem ZpA:tn Tryz.prog 225=some 1:=by kernel_rfl
@[go_sem] theorem ZpB:ta Tryz.prog 225=some false:=by kernel_rfl
@[go_sem] theorem Zgz:KA Tryz.prog 225=some .u64:=by kernel_rfl
@[go_sem] theorem ZpC:tn Tryz.prog 227=some 5:=by kernel_rfl
@[go_sem] theorem ZpD:ta Tryz.prog 227=some true:=by kernel_rfl
@[go_sem] theorem ZpE:tz Tryz.prog 227=some [.int .u64 0,.int .u64 0,.int .u64 0,.int .u64 0,.int .u64 0]:=by kernel_rfl
@[go_sem] theorem Zkj:SR Tryz.prog 227=none:=by kernel_rfl
@[go_sem] theorem ZgA:Yz Tryz.prog 227=some (5,225):=by kernel_rfl
@[go_sem] theorem Zkk:Jf Tryz.prog 227=none:=by kernel_rfl
@[go_sem] theorem ZgB:Q6 Tryz.prog 227=false:=by kernel_rfl
@[go_sem] theorem ZpF:tz Tryz.prog 229=some [.int .u8 0,.int .u8 0,.int .u8 0,.int .u8 0,.int .u8 0,.int .u8 0,.int .u8 0,.int .u8 0,.int .u8 0,.int .u8 0,.int .u8 0,.int .u8 0,.int .u8 0,.int .u8 0,.int .u8 0,.int .u8 0,.int .u8 0]:=by kernel_rfl
@[go_sem] theorem ZgC:Yz Tryz.prog 229=some (17,5):=by kernel_rfl
@[go_sem] theorem Zkl:Jf Tryz.prog 229=none:=by kernel_rfl
@[go_sem] theorem ZgD:Q6 Tryz.prog 229=false:=by kernel_rfl
@[go_sem] theorem ZgE:Yz Tryz.prog 240=none:=by kernel_rfl
@[go_sem] theorem xq:Jf Tryz.prog 240=some 103:=by kernel_rfl
@[go_sem] theorem ZgF:Yz Tryz.prog 246=none:=by kernel_rfl
@[go_sem] theorem Zkm:Jf Tryz.prog 246=some 3:=by kernel_rfl
@[go_sem] theorem ZtY:goes Tryz.prog 10=true:=by kernel_rfl
@[go_sem] theorem ZtZ:goes Tryz.prog 12=true:=by kernel_rfl
@[go_sem] theorem Zt0:goes Tryz.prog 14=true:=by kernel_rfl
@[go_sem] theorem Zt1:goes Tryz.prog 15=true:=by kernel_rfl
@[go_sem] theorem Zt2:goes Tryz.prog 16=true:=by kernel_rfl
@[go_sem] theorem Zt3:goes Tryz.prog 19=true:=by kernel_rfl
@[go_sem] theorem Zt4:goes Tryz.prog 20=true:=by kernel_rfl
@[go_sem] theorem Zt5:goes Tryz.prog 21=true:=by kernel_rfl
@[go_sem] theorem Zt6:goes Tryz.prog 22=true:=by kernel_rfl
@[go_sem] theorem Zt7:goes Tryz.prog 23=true:=by kernel_rfl
@[go_sem] theorem Zt8:goes Tryz.prog 24=true:=by kernel_rfl
@[go_sem] theorem Zt9:goes Tryz.prog 25=true:=by kernel_rfl
@[go_sem] theorem Zua:goes Tryz.prog 26=true:=by kernel_rfl
@[go_sem] theorem Zub:goes Tryz.prog 27=true:=by kernel_rfl
@[go_sem] theorem Zuc:goes Tryz.prog 28=true:=by kernel_rfl
@[go_sem] theorem Zud:goes Tryz.prog 30=true:=by kernel_rfl
@[go_sem] theorem Zue:goes Tryz.prog 31=true:=by kernel_rfl
@[go_sem] theorem Zuf:goes Tryz.prog 32=true:=by kernel_rfl
@[go_sem] theorem Zug:goes Tryz.prog 33=true:=by kernel_rfl
@[go_sem] theorem Zuh:goes Tryz.prog 34=true:=by kernel_rfl
@[go_sem] theorem Zui:goes Tryz.prog 35=true:=by kernel_rfl
@[go_sem] theorem Zuj:goes Tryz.prog 36=true:=by kernel_rfl
@[go_sem] theorem Zuk:goes Tryz.prog 37=true:=by kernel_rfl
@[go_sem] theorem Zul:goes Tryz.prog 38=true:=by kernel_rfl
@[go_sem] theorem Zum:goes Tryz.prog 39=true:=by kernel_rfl
@[go_sem] theorem Zun:goes Tryz.prog 40=true:=by kernel_rfl
@[go_sem] theorem Zuo:goes Tryz.prog 41=true:=by kernel_rfl
@[go_sem] theorem Zup:goes Tryz.prog 42=true:=by kernel_rfl
@[go_sem] theorem Zuq:goes Tryz.prog 43=true:=by kernel_rfl
@[go_sem] theorem Zur:goes Tryz.prog 44=true:=by kernel_rfl
@[go_sem] theorem Zus:goes Tryz.prog 45=true:=by kernel_rfl
@[go_sem] theorem Zut:goes Tryz.prog 46=true:=by kernel_rfl
@[go_sem] theorem Zuu:goes Tryz.prog 47=true:=by kernel_rfl
@[go_sem] theorem Zuv:goes Tryz.prog 48=true:=by kernel_rfl
@[go_sem] theorem Zuw:goes Tryz.prog 49=true:=by kernel_rfl
@[go_sem] theorem Zux:goes Tryz.prog 50=true:=by kernel_rfl
@[go_sem] theorem Zuy:goes Tryz.prog 51=true:=by kernel_rfl
@[go_sem] theorem Zuz:goes Tryz.prog 52=true:=by kernel_rfl
@[go_sem] theorem ZuA:goes Tryz.prog 53=true:=by kernel_rfl
@[go_sem] theorem ZuB:goes Tryz.prog 54=true:=by kernel_rfl
@[go_sem] theorem ZuC:goes Tryz.prog 55=true:=by kernel_rfl
@[go_sem] theorem ZuD:goes Tryz.prog 56=true:=by kernel_rfl
@[go_sem] theorem ZuE:goes Tryz.prog 57=true:=by kernel_rfl
@[go_sem] theorem ZuF:goes Tryz.prog 58=true:=by kernel_rfl
@[go_sem] theorem ZuG:goes Tryz.prog 59=true:=by kernel_rfl
@[go_sem] theorem ZuH:goes Tryz.prog 60=true:=by kernel_rfl
@[go_sem] theorem ZuI:goes Tryz.prog 61=true:=by kernel_rfl
@[go_sem] theorem ZuJ:goes Tryz.prog 62=true:=by kernel_rfl
@[go_sem] theorem ZuK:goes Tryz.prog 63=true:=by kernel_rfl
@[go_sem] theorem ZuL:goes Tryz.prog 64=true:=by kernel_rfl
@[go_sem] theorem ZuM:goes Tryz.prog 65=true:=by kernel_rfl
@[go_sem] theorem ZuN:goes Tryz.prog 66=true:=by kernel_rfl
@[go_sem] theorem ZuO:goes Tryz.prog 67=true:=by kernel_rfl
@[go_sem] theorem ZuP:goes Tryz.prog 68=true:=by kernel_rfl
@[go_sem] theorem ZuQ:goes Tryz.prog 69=true:=by kernel_rfl
@[go_sem] theorem ZuR:goes Tryz.prog 70=true:=by kernel_rfl
@[go_sem] theorem ZuS:goes Tryz.prog 71=true:=by kernel_rfl
@[go_sem] theorem ZuT:goes Tryz.prog 72=true:=by kernel_rfl
@[go_sem] theorem ZuU:goes Tryz.prog 73=true:=by kernel_rfl
@[go_sem] theorem ZuV:goes Tryz.prog 74=true:=by kernel_rfl
@[go_sem] theorem ZuW:goes Tryz.prog 75=true:=by kernel_rfl
@[go_sem] theorem ZuX:goes Tryz.prog 76=true:=by kernel_rfl
@[go_sem] theorem ZuY:goes Tryz.prog 77=true:=by kernel_rfl
@[go_sem] theorem ZuZ:goes Tryz.prog 78=true:=by kernel_rfl
@[go_sem] theorem Zu0:goes Tryz.prog 79=true:=by kernel_rfl
@[go_sem] theorem Zu1:goes Tryz.prog 80=true:=by kernel_rfl
@[go_sem] theorem Zu2:goes Tryz.prog 81=true:=by kernel_rfl
@[go_sem] theorem Zu3:goes Tryz.prog 82=true:=by kernel_rfl
@[go_sem] theorem Zu4:goes Tryz.prog 83=true:=by kernel_rfl
@[go_sem] theorem Zu5:goes Tryz.prog 84=true:=by kernel_rfl
@[go_sem] theorem Zu6:goes Tryz.prog 85=true:=by kernel_rfl
@[go_sem] theorem Zu7:goes Tryz.prog 86=true:=by kernel_rfl
@[go_sem] theorem Zu8:goes Tryz.prog 87=true:=by kernel_rfl
@[go_sem] theorem Zu9:goes Tryz.prog 88=true:=by kernel_rfl
@[go_sem] theorem Zva:goes Tryz.prog 89=true:=by kernel_rfl
@[go_sem] theorem Zvb:goes Tryz.prog 90=true:=by kernel_rfl
@[go_sem] theorem Zvc:goes Tryz.prog 91=true:=by kernel_rfl
@[go_sem] theorem Zvd:goes Tryz.prog 92=true:=by kernel_rfl
@[go_sem] theorem Zve:goes Tryz.prog 93=true:=by kernel_rfl
@[go_sem] theorem Zvf:goes Tryz.prog 94=true:=by kernel_rfl
@[go_sem] theorem Zvg:goes Tryz.prog 95=true:=by kernel_rfl
@[go_sem] theorem Zvh:goes Tryz.prog 96=true:=by kernel_rfl
@[go_sem] theorem Zvi:goes Tryz.prog 97=true:=by kernel_rfl
@[go_sem] theorem Zvj:goes Tryz.prog 98=true:=by kernel_rfl
@[go_sem] theorem Zvk:goes Tryz.prog 99=true:=by kernel_rfl
@[go_sem] theorem ZpG:goes Tryz.prog 100=true:=by kernel_rfl
@[go_sem] theorem ZpH:goes Tryz.prog 101=true:=by kernel_rfl
@[go_sem] theorem ZpI:goes Tryz.prog 102=true:=by kernel_rfl
@[go_sem] theorem ZpJ:goes Tryz.prog 103=true:=by kernel_rfl
@[go_sem] theorem ZpK:goes Tryz.prog 104=true:=by kernel_rfl
@[go_sem] theorem ZpL:goes Tryz.prog 105=true:=by kernel_rfl
@[go_sem] theorem ZpM:goes Tryz.prog 106=true:=by kernel_rfl
@[go_sem] theorem ZpN:goes Tryz.prog 107=true:=by kernel_rfl
@[go_sem] theorem ZpO:goes Tryz.prog 108=true:=by kernel_rfl
@[go_sem] theorem ZpP:goes Tryz.prog 109=true:=by kernel_rfl
@[go_sem] theorem ZpQ:goes Tryz.prog 111=true:=by kernel_rfl
@[go_sem] theorem ZpR:goes Tryz.prog 113=true:=by kernel_rfl
@[go_sem] theorem ZpS:goes Tryz.prog 114=true:=by kernel_rfl
@[go_sem] theorem ZpT:goes Tryz.prog 116=true:=by kernel_rfl
@[go_sem] theorem ZpU:goes Tryz.prog 117=true:=by kernel_rfl
@[go_sem] theorem ZpV:goes Tryz.prog 120=true:=by kernel_rfl
@[go_sem] theorem ZpW:goes Tryz.prog 121=true:=by kernel_rfl
@[go_sem] theorem ZpX:goes Tryz.prog 122=true:=by kernel_rfl
@[go_sem] theorem ZpY:goes Tryz.prog 123=true:=by kernel_rfl
@[go_sem] theorem ZpZ:goes Tryz.prog 124=true:=by kernel_rfl
@[go_sem] theorem Zp0:goes Tryz.prog 125=true:=by kernel_rfl
@[go_sem] theorem Zp1:goes Tryz.prog 126=true:=by kernel_rfl
@[go_sem] theorem Zp2:goes Tryz.prog 127=true:=by kernel_rfl
@[go_sem] theorem Zp3:goes Tryz.prog 128=true:=by kernel_rfl
@[go_sem] theorem Zp4:goes Tryz.prog 129=true:=by kernel_rfl
@[go_sem] theorem Zp5:goes Tryz.prog 130=true:=by kernel_rfl
@[go_sem] theorem Zp6:goes Tryz.prog 131=true:=by kernel_rfl
@[go_sem] theorem Zp7:goes Tryz.prog 132=true:=by kernel_rfl
@[go_sem] theorem Zp8:goes Tryz.prog 133=true:=by kernel_rfl
@[go_sem] theorem Zp9:goes Tryz.prog 134=true:=by kernel_rfl
@[go_sem] theorem Zqa:goes Tryz.prog 135=true:=by kernel_rfl
@[go_sem] theorem Zqb:goes Tryz.prog 136=true:=by kernel_rfl
@[go_sem] theorem Zqc:goes Tryz.prog 138=true:=by kernel_rfl
@[go_sem] theorem Zqd:goes Tryz.prog 139=true:=by kernel_rfl
@[go_sem] theorem Zqe:goes Tryz.prog 140=true:=by kernel_rfl
@[go_sem] theorem Zqf:goes Tryz.prog 141=true:=by kernel_rfl
@[go_sem] theorem Zqg:goes Tryz.prog 142=true:=by kernel_rfl
@[go_sem] theorem Zqh:goes Tryz.prog 143=true:=by kernel_rfl
@[go_sem] theorem Zqi:goes Tryz.prog 144=true:=by kernel_rfl
@[go_sem] theorem Zqj:goes Tryz.prog 147=true:=by kernel_rfl
def IE:List Nat:=[104,97,114,110,101,115,115,32,55,49,98,49,57,53,53,54,98,50,55,53,54,51,55,48,55,99,56,55,100,99,97,51,55,54,56,102,56,53,98,51,50,57,101,101,48,100,50,102,54,54,102,97,53,55,57,100,52,55,55,98,48,100,101,49,55,102,52,100,56,97,49,101,32,99,117,116,32,97,116,32,99,111,110,99,108,97,118,101,47,99,111,110,99,108,97,118,101,116,111,112,46,84,111,112,71,114,111,119,115,32,99,111,110,99,108,97,118,101,47,99,111,110,99,108,97,118,101,116,111,112,46,84,111,112,83,117,98,109,105,116,116,101,100,32,99,111,110,99,108,97,118,101,47,99,111,110,99,108,97,118,101,116,111,112,46,84,111,112,70,111,114,103,101,100,32,99,111,110,99,108,97,118,101,47,99,111,110,99,108,97,118,101,116,111,112,46,84,111,112,76,101,97,100,101,114,108,101,115,115,32,99,111,110,99,108,97,118,101,47,99,111,110,99,108,97,118,101,116,111,112,46,84,111,112,77,105,110,111,114,105,116,121,32,99,111,110,99,108,97,118,101,47,99,111,110,99,108,97,118,101,116,111,112,46,84,111,112,66,97,100,32,99,111,110,99,108,97,118,101,47,99,111,110,99,108,97,118,101,116,111,112,46,84,111,112,67,104,97,105,110,115]
theorem CZ:∃rest,Go.behindMainWord (Go.wordsSigns Tryz.prog.initOrder.toList) = "cut".toList :: rest:=
 dj (L:=IE.map Char.ofNat) (by kernel_rfl) (by kernel_rfl)
theorem Zcw:Tryz.prog.make=some .cut:=CZ.elim fun _ h=>jE h
theorem xr:Tryz.prog.liftsFinal=false:=CZ.elim fun _ h=>dh h
theorem xt:Tryz.prog.mayEnter=true:=CZ.elim fun _ h=>di h (by kernel_rfl) (by kernel_rfl) (by kernel_rfl)
theorem jZ:Go.ownKnob Tryz.prog.godebug=none:=by kernel_rfl
theorem j0:Go.laidOutB Tryz.prog=true:=by kernel_rfl
theorem mixed:Tryz.prog.follows .mixedOrders=true:=by kernel_rfl
end Go.Proofs.YtpomedigibbeeaaGreatDoor

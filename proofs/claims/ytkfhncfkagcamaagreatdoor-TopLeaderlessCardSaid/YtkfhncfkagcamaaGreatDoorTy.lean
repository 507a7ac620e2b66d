/- The tables of this seat's program, in V2's words. Printed by gen_ty.py. -/
import Derived.Test.YtkfhncfkagcamaaGreatDoorRows
import Derived.Test.YtkfhncfkagcamaaGreatDoorV9
import Derived.Test.YtkfhncfkagcamaaGreatDoorW3
import Derived.KernelRfl
namespace Go.Proofs.YtkfhncfkagcamaaGreatDoor
open Go.V
set_option maxRecDepth 100000
@[go_sem] theorem tn1:tn Tryz.prog 1=some 1:=by kernel_rfl
@[go_sem] theorem tb1:tb Tryz.prog 1=some 8:=by kernel_rfl
@[go_sem] theorem ta1:ta Tryz.prog 1=some false:=by kernel_rfl
@[go_sem] theorem tz1:tz Tryz.prog 1=some [.nilFunc]:=by kernel_rfl
@[go_sem] theorem CT:tb Tryz.prog 2=some 8:=by kernel_rfl
@[go_sem] theorem tn3:tn Tryz.prog 3=some 1:=by kernel_rfl
@[go_sem] theorem tb3:tb Tryz.prog 3=some 8:=by kernel_rfl
@[go_sem] theorem ta3:ta Tryz.prog 3=some false:=by kernel_rfl
@[go_sem] theorem tz3:tz Tryz.prog 3=some [.int .i64 0]:=by kernel_rfl
@[go_sem] theorem Zob:Kx Tryz.prog 3=some .i64:=by kernel_rfl
@[go_sem] theorem tn4:tn Tryz.prog 4=some 1:=by kernel_rfl
@[go_sem] theorem tb4:tb Tryz.prog 4=some 1:=by kernel_rfl
@[go_sem] theorem ta4:ta Tryz.prog 4=some false:=by kernel_rfl
@[go_sem] theorem Wm:tn Tryz.prog 5=some 1:=by kernel_rfl
@[go_sem] theorem Ve:tb Tryz.prog 5=some 1:=by kernel_rfl
@[go_sem] theorem ta5:ta Tryz.prog 5=some false:=by kernel_rfl
@[go_sem] theorem Vf:tz Tryz.prog 5=some [.int .u8 0]:=by kernel_rfl
@[go_sem] theorem Zoc:Kx Tryz.prog 5=some .u8:=by kernel_rfl
@[go_sem] theorem ZiG:YB Tryz.prog 22=none:=by kernel_rfl
@[go_sem] theorem Zod:Jg Tryz.prog 22=some 81:=by kernel_rfl
@[go_sem] theorem ZiH:YB Tryz.prog 23=none:=by kernel_rfl
@[go_sem] theorem jV:Jg Tryz.prog 23=some 36:=by kernel_rfl
@[go_sem] theorem ZiI:YB Tryz.prog 28=some (5,4):=by kernel_rfl
@[go_sem] theorem Zoe:Jg Tryz.prog 28=none:=by kernel_rfl
@[go_sem] theorem Zti:tn Tryz.prog 29=some 1:=by kernel_rfl
@[go_sem] theorem Ztj:ta Tryz.prog 29=some false:=by kernel_rfl
@[go_sem] theorem ZiJ:YB Tryz.prog 29=none:=by kernel_rfl
@[go_sem] theorem Zb7:Jg Tryz.prog 29=some 37:=by kernel_rfl
@[go_sem] theorem ZiK:YB Tryz.prog 30=some (5,3):=by kernel_rfl
@[go_sem] theorem Zof:Jg Tryz.prog 30=none:=by kernel_rfl
@[go_sem] theorem Ztk:tn Tryz.prog 31=some 1:=by kernel_rfl
@[go_sem] theorem Ztl:ta Tryz.prog 31=some false:=by kernel_rfl
@[go_sem] theorem Zb8:Jg Tryz.prog 31=some 42:=by kernel_rfl
@[go_sem] theorem Ztm:tn Tryz.prog 33=some 13:=by kernel_rfl
@[go_sem] theorem Ztn:ta Tryz.prog 33=some true:=by kernel_rfl
@[go_sem] theorem Zto:tz Tryz.prog 33=some [.int .i64 0,.bool false,.bool false,.bool false,.bool false,.bool false,.slice none 0 0,.int .i64 0,.int .i64 0,.int .i64 0,.int .i64 0,.int .i64 0,.slice none 0 0]:=by kernel_rfl
@[go_sem] theorem ZiL:tf Tryz.prog 33 0=some 0:=by kernel_rfl
@[go_sem] theorem ZiM:tf Tryz.prog 33 1=some 1:=by kernel_rfl
@[go_sem] theorem ZiN:tf Tryz.prog 33 2=some 6:=by kernel_rfl
@[go_sem] theorem ZiO:tf Tryz.prog 33 3=some 7:=by kernel_rfl
@[go_sem] theorem ZiP:tf Tryz.prog 33 4=some 12:=by kernel_rfl
@[go_sem] theorem Zog:S5 Tryz.prog 33=some [(0,1),(1,5),(6,1),(7,5),(12,1)]:=by kernel_rfl
@[go_sem] theorem ZiQ:YB Tryz.prog 33=none:=by kernel_rfl
@[go_sem] theorem Ztp:tn Tryz.prog 34=some 1:=by kernel_rfl
@[go_sem] theorem Ztq:ta Tryz.prog 34=some false:=by kernel_rfl
@[go_sem] theorem ZiR:YB Tryz.prog 34=none:=by kernel_rfl
@[go_sem] theorem Yu:Jg Tryz.prog 34=some 5:=by kernel_rfl
@[go_sem] theorem ZiS:Ua Tryz.prog 34=false:=by kernel_rfl
@[go_sem] theorem wK:tn Tryz.prog 36=some 5:=by kernel_rfl
@[go_sem] theorem wM:tb Tryz.prog 36=some 56:=by kernel_rfl
@[go_sem] theorem Ztr:ta Tryz.prog 36=some true:=by kernel_rfl
@[go_sem] theorem wP:tz Tryz.prog 36=some [.int .i64 0,.int .i64 0,.int .i64 0,.int .i64 0,.slice none 0 0]:=by kernel_rfl
@[go_sem] theorem ZiT:tf Tryz.prog 36 0=some 0:=by kernel_rfl
@[go_sem] theorem ZiU:tf Tryz.prog 36 1=some 1:=by kernel_rfl
@[go_sem] theorem ZiV:tf Tryz.prog 36 2=some 2:=by kernel_rfl
@[go_sem] theorem ZiW:tf Tryz.prog 36 3=some 3:=by kernel_rfl
@[go_sem] theorem ZiX:tf Tryz.prog 36 4=some 4:=by kernel_rfl
@[go_sem] theorem Zoh:S5 Tryz.prog 36=some [(0,1),(1,1),(2,1),(3,1),(4,1)]:=by kernel_rfl
@[go_sem] theorem ZiY:YB Tryz.prog 36=none:=by kernel_rfl
@[go_sem] theorem ZiZ:tn Tryz.prog 37=some 1:=by kernel_rfl
@[go_sem] theorem Zi0:tb Tryz.prog 37=some 24:=by kernel_rfl
@[go_sem] theorem Zts:ta Tryz.prog 37=some false:=by kernel_rfl
@[go_sem] theorem Zi1:tz Tryz.prog 37=some [.slice none 0 0]:=by kernel_rfl
@[go_sem] theorem Zi2:YB Tryz.prog 37=none:=by kernel_rfl
@[go_sem] theorem FL:Jg Tryz.prog 37=some 47:=by kernel_rfl
@[go_sem] theorem Zi3:Ua Tryz.prog 37=false:=by kernel_rfl
@[go_sem] theorem Ztt:tn Tryz.prog 40=some 2:=by kernel_rfl
@[go_sem] theorem Ztu:ta Tryz.prog 40=some true:=by kernel_rfl
@[go_sem] theorem Ztv:tz Tryz.prog 40=some [.int .i64 0,.int .i64 0]:=by kernel_rfl
@[go_sem] theorem Zoi:S5 Tryz.prog 40=some [(0,1),(1,1)]:=by kernel_rfl
@[go_sem] theorem Zoj:ub Tryz.prog 40=false:=by kernel_rfl
@[go_sem] theorem Zfm:flat Tryz.prog 6 40=some [some .i64,some .i64]:=by kernel_rfl
@[go_sem] theorem Zi4:YB Tryz.prog 40=none:=by kernel_rfl
@[go_sem] theorem Zi5:tn Tryz.prog 42=some 5:=by kernel_rfl
@[go_sem] theorem Zi6:tb Tryz.prog 42=some 40:=by kernel_rfl
@[go_sem] theorem Zi7:tz Tryz.prog 42=some [.int .i64 0,.int .i64 0,.int .i64 0,.int .i64 0,.int .i64 0]:=by kernel_rfl
@[go_sem] theorem Zok:S5 Tryz.prog 42=some [(0,1),(1,1),(2,1),(3,2)]:=by kernel_rfl
@[go_sem] theorem Zi8:YB Tryz.prog 42=none:=by kernel_rfl
@[go_sem] theorem wU:tn Tryz.prog 47=some 5:=by kernel_rfl
@[go_sem] theorem Zb9:tb Tryz.prog 47=some 40:=by kernel_rfl
@[go_sem] theorem Ztw:ta Tryz.prog 47=some true:=by kernel_rfl
@[go_sem] theorem jW:tz Tryz.prog 47=some [.int .i64 0,.int .i64 0,.int .i64 0,.int .i64 0,.int .i64 0]:=by kernel_rfl
@[go_sem] theorem Zi9:tf Tryz.prog 47 0=some 0:=by kernel_rfl
@[go_sem] theorem Zja:tf Tryz.prog 47 1=some 1:=by kernel_rfl
@[go_sem] theorem Zjb:tf Tryz.prog 47 2=some 2:=by kernel_rfl
@[go_sem] theorem Zjc:tf Tryz.prog 47 3=some 3:=by kernel_rfl
@[go_sem] theorem Zjd:tf Tryz.prog 47 4=some 4:=by kernel_rfl
@[go_sem] theorem Zol:S5 Tryz.prog 47=some [(0,1),(1,1),(2,1),(3,1),(4,1)]:=by kernel_rfl
@[go_sem] theorem Zom:ub Tryz.prog 47=false:=by kernel_rfl
@[go_sem] theorem Zfn:flat Tryz.prog 6 47=some [some .i64,some .i64,some .i64,some .i64,some .i64]:=by kernel_rfl
@[go_sem] theorem Zje:YB Tryz.prog 47=none:=by kernel_rfl
@[go_sem] theorem Ztx:tn Tryz.prog 57=some 8:=by kernel_rfl
@[go_sem] theorem Zty:ta Tryz.prog 57=some true:=by kernel_rfl
@[go_sem] theorem Zjf:YB Tryz.prog 57=some (8,3):=by kernel_rfl
@[go_sem] theorem Zon:Jg Tryz.prog 57=none:=by kernel_rfl
@[go_sem] theorem Zjg:Ua Tryz.prog 57=false:=by kernel_rfl
@[go_sem] theorem Zjh:YB Tryz.prog 58=some (8,40):=by kernel_rfl
@[go_sem] theorem Zoo:Jg Tryz.prog 58=none:=by kernel_rfl
@[go_sem] theorem Ztz:tn Tryz.prog 59=some 8:=by kernel_rfl
@[go_sem] theorem ZtA:ta Tryz.prog 59=some true:=by kernel_rfl
@[go_sem] theorem ZtB:tz Tryz.prog 59=some [.bool false,.bool false,.bool false,.bool false,.bool false,.bool false,.bool false,.bool false]:=by kernel_rfl
@[go_sem] theorem Zop:S5 Tryz.prog 59=none:=by kernel_rfl
@[go_sem] theorem Zji:YB Tryz.prog 59=some (8,4):=by kernel_rfl
@[go_sem] theorem Zoq:Jg Tryz.prog 59=none:=by kernel_rfl
@[go_sem] theorem Zjj:Ua Tryz.prog 59=false:=by kernel_rfl
@[go_sem] theorem ZtC:tn Tryz.prog 61=some 40:=by kernel_rfl
@[go_sem] theorem ZtD:ta Tryz.prog 61=some true:=by kernel_rfl
@[go_sem] theorem ZtE:tz Tryz.prog 61=some [.int .i64 0,.int .i64 0,.int .i64 0,.int .i64 0,.int .i64 0,.int .i64 0,.int .i64 0,.int .i64 0,.int .i64 0,.int .i64 0,.int .i64 0,.int .i64 0,.int .i64 0,.int .i64 0,.int .i64 0,.int .i64 0,.int .i64 0,.int .i64 0,.int .i64 0,.int .i64 0,.int .i64 0,.int .i64 0,.int .i64 0,.int .i64 0,.int .i64 0,.int .i64 0,.int .i64 0,.int .i64 0,.int .i64 0,.int .i64 0,.int .i64 0,.int .i64 0,.bool false,.bool false,.bool false,.bool false,.bool false,.bool false,.bool false,.bool false]:=by kernel_rfl
@[go_sem] theorem Zjk:tf Tryz.prog 61 0=some 0:=by kernel_rfl
@[go_sem] theorem Zjl:tf Tryz.prog 61 1=some 8:=by kernel_rfl
@[go_sem] theorem Zjm:tf Tryz.prog 61 2=some 16:=by kernel_rfl
@[go_sem] theorem Zjn:tf Tryz.prog 61 3=some 32:=by kernel_rfl
@[go_sem] theorem Zor:S5 Tryz.prog 61=some [(0,8),(8,8),(16,16),(32,8)]:=by kernel_rfl
@[go_sem] theorem Zjo:YB Tryz.prog 61=none:=by kernel_rfl
@[go_sem] theorem ZtF:tz Tryz.prog 69=some [.int .i64 0,.int .i64 0,.int .i64 0,.int .i64 0,.int .i64 0]:=by kernel_rfl
@[go_sem] theorem Zjp:tf Tryz.prog 69 0=some 0:=by kernel_rfl
@[go_sem] theorem Zjq:tf Tryz.prog 69 1=some 1:=by kernel_rfl
@[go_sem] theorem Zjr:tf Tryz.prog 69 2=some 2:=by kernel_rfl
@[go_sem] theorem Zjs:tf Tryz.prog 69 3=some 3:=by kernel_rfl
@[go_sem] theorem Zjt:tf Tryz.prog 69 4=some 4:=by kernel_rfl
@[go_sem] theorem Zos:S5 Tryz.prog 69=some [(0,1),(1,1),(2,1),(3,1),(4,1)]:=by kernel_rfl
@[go_sem] theorem Zju:YB Tryz.prog 69=none:=by kernel_rfl
@[go_sem] theorem Zjv:YB Tryz.prog 70=none:=by kernel_rfl
@[go_sem] theorem Zot:Jg Tryz.prog 70=some 3:=by kernel_rfl
@[go_sem] theorem ZtG:tn Tryz.prog 75=some 3:=by kernel_rfl
@[go_sem] theorem ZtH:ta Tryz.prog 75=some true:=by kernel_rfl
@[go_sem] theorem ZtI:tz Tryz.prog 75=some [.int .i64 0,.int .i64 0,.int .i64 0]:=by kernel_rfl
@[go_sem] theorem Zjw:tf Tryz.prog 75 0=some 0:=by kernel_rfl
@[go_sem] theorem Zjx:tf Tryz.prog 75 1=some 1:=by kernel_rfl
@[go_sem] theorem Zjy:tf Tryz.prog 75 2=some 2:=by kernel_rfl
@[go_sem] theorem Zou:S5 Tryz.prog 75=some [(0,1),(1,1),(2,1)]:=by kernel_rfl
@[go_sem] theorem Zjz:YB Tryz.prog 75=none:=by kernel_rfl
@[go_sem] theorem ZtJ:tn Tryz.prog 81=some 5:=by kernel_rfl
@[go_sem] theorem ZtK:ta Tryz.prog 81=some true:=by kernel_rfl
@[go_sem] theorem ZjA:tf Tryz.prog 81 0=some 0:=by kernel_rfl
@[go_sem] theorem ZjB:tf Tryz.prog 81 1=some 1:=by kernel_rfl
@[go_sem] theorem ZjC:tf Tryz.prog 81 2=some 2:=by kernel_rfl
@[go_sem] theorem ZjD:tf Tryz.prog 81 3=some 3:=by kernel_rfl
@[go_sem] theorem ZjE:tf Tryz.prog 81 4=some 4:=by kernel_rfl
@[go_sem] theorem ZtL:tn Tryz.prog 84=some 11:=by kernel_rfl
@[go_sem] theorem ZtM:ta Tryz.prog 84=some true:=by kernel_rfl
@[go_sem] theorem ZtN:tz Tryz.prog 84=some [.slice none 0 0,.int .i64 0,.int .i64 0,.bool false,.bool false,.bool false,.bool false,.bool false,.bool false,.bool false,.bool false]:=by kernel_rfl
@[go_sem] theorem ZjF:tf Tryz.prog 84 0=some 0:=by kernel_rfl
@[go_sem] theorem ZjG:tf Tryz.prog 84 1=some 1:=by kernel_rfl
@[go_sem] theorem ZjH:tf Tryz.prog 84 2=some 2:=by kernel_rfl
@[go_sem] theorem ZjI:tf Tryz.prog 84 3=some 3:=by kernel_rfl
@[go_sem] theorem Zov:S5 Tryz.prog 84=some [(0,1),(1,1),(2,1),(3,8)]:=by kernel_rfl
@[go_sem] theorem ZjJ:YB Tryz.prog 84=none:=by kernel_rfl
@[go_sem] theorem Zfo:Kx Tryz.prog 103=some .u64:=by kernel_rfl
@[go_sem] theorem Zow:tn Tryz.prog 110=some 1:=by kernel_rfl
@[go_sem] theorem Zox:ta Tryz.prog 110=some false:=by kernel_rfl
@[go_sem] theorem Zoy:tn Tryz.prog 111=some 5:=by kernel_rfl
@[go_sem] theorem Zoz:ta Tryz.prog 111=some true:=by kernel_rfl
@[go_sem] theorem ZoA:tz Tryz.prog 111=some [.pointer none,.pointer none,.pointer none,.pointer none,.pointer none]:=by kernel_rfl
@[go_sem] theorem ZjK:S5 Tryz.prog 111=none:=by kernel_rfl
@[go_sem] theorem Zfp:YB Tryz.prog 111=some (5,110):=by kernel_rfl
@[go_sem] theorem Zfq:Ua Tryz.prog 111=false:=by kernel_rfl
@[go_sem] theorem ZoB:tz Tryz.prog 115=some [.int .i64 0,.int .i64 0,.int .i64 0,.int .i64 0]:=by kernel_rfl
@[go_sem] theorem ZjL:S5 Tryz.prog 115=none:=by kernel_rfl
@[go_sem] theorem Zfr:YB Tryz.prog 115=some (4,3):=by kernel_rfl
@[go_sem] theorem ZjM:Jg Tryz.prog 115=none:=by kernel_rfl
@[go_sem] theorem Zfs:Ua Tryz.prog 115=false:=by kernel_rfl
@[go_sem] theorem ZoC:tn Tryz.prog 117=some 1:=by kernel_rfl
@[go_sem] theorem ZoD:ta Tryz.prog 117=some false:=by kernel_rfl
@[go_sem] theorem ZoE:tn Tryz.prog 120=some 1:=by kernel_rfl
@[go_sem] theorem ZoF:ta Tryz.prog 120=some false:=by kernel_rfl
@[go_sem] theorem Zft:YB Tryz.prog 120=none:=by kernel_rfl
@[go_sem] theorem wX:Jg Tryz.prog 120=some 124:=by kernel_rfl
@[go_sem] theorem ZoG:tn Tryz.prog 121=some 1:=by kernel_rfl
@[go_sem] theorem ZoH:ta Tryz.prog 121=some false:=by kernel_rfl
@[go_sem] theorem Zfu:YB Tryz.prog 121=none:=by kernel_rfl
@[go_sem] theorem HU:Jg Tryz.prog 121=some 163:=by kernel_rfl
@[go_sem] theorem Zfv:Ua Tryz.prog 121=false:=by kernel_rfl
@[go_sem] theorem ZoI:tz Tryz.prog 123=some [.slice none 0 0,.slice none 0 0,.int .i64 0,.bool false,.bool false,.bool false,.bool false,.bool false,.slice none 0 0,.int .i64 0,.int .i64 0,.int .i64 0,.int .i64 0,.int .i64 0,.slice none 0 0]:=by kernel_rfl
@[go_sem] theorem Zfw:tf Tryz.prog 123 0=some 0:=by kernel_rfl
@[go_sem] theorem Zfx:tf Tryz.prog 123 1=some 1:=by kernel_rfl
@[go_sem] theorem Zfy:tf Tryz.prog 123 2=some 2:=by kernel_rfl
@[go_sem] theorem ZjN:S5 Tryz.prog 123=some [(0,1),(1,1),(2,13)]:=by kernel_rfl
@[go_sem] theorem Zfz:YB Tryz.prog 123=none:=by kernel_rfl
@[go_sem] theorem Zca:tn Tryz.prog 124=some 1:=by kernel_rfl
@[go_sem] theorem Zcb:tb Tryz.prog 124=some 8:=by kernel_rfl
@[go_sem] theorem ZoJ:ta Tryz.prog 124=some false:=by kernel_rfl
@[go_sem] theorem Zcc:tz Tryz.prog 124=some [.pointer none]:=by kernel_rfl
@[go_sem] theorem ZoK:tn Tryz.prog 126=some 2:=by kernel_rfl
@[go_sem] theorem ZoL:ta Tryz.prog 126=some true:=by kernel_rfl
@[go_sem] theorem ZoM:tz Tryz.prog 126=some [.slice none 0 0,.int .i64 0]:=by kernel_rfl
@[go_sem] theorem ZfA:tf Tryz.prog 126 0=some 0:=by kernel_rfl
@[go_sem] theorem ZfB:tf Tryz.prog 126 1=some 1:=by kernel_rfl
@[go_sem] theorem ZjO:S5 Tryz.prog 126=some [(0,1),(1,1)]:=by kernel_rfl
@[go_sem] theorem ZfC:YB Tryz.prog 126=none:=by kernel_rfl
@[go_sem] theorem ZoN:tn Tryz.prog 128=some 2:=by kernel_rfl
@[go_sem] theorem ZoO:ta Tryz.prog 128=some true:=by kernel_rfl
@[go_sem] theorem ZoP:tz Tryz.prog 128=some [.int .i64 0,.int .i64 0]:=by kernel_rfl
@[go_sem] theorem ZfD:tf Tryz.prog 128 0=some 0:=by kernel_rfl
@[go_sem] theorem ZfE:tf Tryz.prog 128 1=some 1:=by kernel_rfl
@[go_sem] theorem ZjP:S5 Tryz.prog 128=some [(0,1),(1,1)]:=by kernel_rfl
@[go_sem] theorem ZjQ:ub Tryz.prog 128=false:=by kernel_rfl
@[go_sem] theorem Zcd:flat Tryz.prog 6 128=some [some .i64,some .i64]:=by kernel_rfl
@[go_sem] theorem ZfF:YB Tryz.prog 128=none:=by kernel_rfl
@[go_sem] theorem Zce:tn Tryz.prog 129=some 1:=by kernel_rfl
@[go_sem] theorem Zcf:tb Tryz.prog 129=some 24:=by kernel_rfl
@[go_sem] theorem ZoQ:ta Tryz.prog 129=some false:=by kernel_rfl
@[go_sem] theorem Zcg:tz Tryz.prog 129=some [.slice none 0 0]:=by kernel_rfl
@[go_sem] theorem ZfG:YB Tryz.prog 129=none:=by kernel_rfl
@[go_sem] theorem TA:Jg Tryz.prog 129=some 161:=by kernel_rfl
@[go_sem] theorem ZfH:Ua Tryz.prog 129=false:=by kernel_rfl
@[go_sem] theorem ZoR:tn Tryz.prog 131=some 3:=by kernel_rfl
@[go_sem] theorem ZoS:ta Tryz.prog 131=some true:=by kernel_rfl
@[go_sem] theorem ZoT:tz Tryz.prog 131=some [.int .i64 0,.int .i64 0,.slice none 0 0]:=by kernel_rfl
@[go_sem] theorem ZfI:tf Tryz.prog 131 0=some 0:=by kernel_rfl
@[go_sem] theorem ZfJ:tf Tryz.prog 131 1=some 2:=by kernel_rfl
@[go_sem] theorem ZjR:S5 Tryz.prog 131=some [(0,2),(2,1)]:=by kernel_rfl
@[go_sem] theorem ZfK:YB Tryz.prog 131=none:=by kernel_rfl
@[go_sem] theorem ZoU:tn Tryz.prog 132=some 1:=by kernel_rfl
@[go_sem] theorem ZoV:ta Tryz.prog 132=some false:=by kernel_rfl
@[go_sem] theorem ZoW:tn Tryz.prog 133=some 1:=by kernel_rfl
@[go_sem] theorem ZoX:ta Tryz.prog 133=some false:=by kernel_rfl
@[go_sem] theorem ZoY:tz Tryz.prog 135=some [.int .i64 0,.bool false,.slice none 0 0,.int .i64 0,.int .i64 0,.int .i64 0,.slice none 0 0,.int .i64 0,.int .i64 0,.pointer none,.map none,.slice none 0 0,.int .i64 0,.int .i64 0,.int .i64 0,.int .i64 0,.int .i64 0,.int .i64 0,.int .i64 0,.int .i64 0,.int .i64 0,.int .i64 0,.int .i64 0,.int .i64 0,.int .i64 0,.int .i64 0,.int .i64 0,.int .i64 0,.int .i64 0,.int .i64 0,.int .i64 0,.int .i64 0,.int .i64 0,.int .i64 0,.int .i64 0,.int .i64 0,.int .i64 0,.int .i64 0,.int .i64 0,.int .i64 0,.int .i64 0,.int .i64 0,.int .i64 0,.int .i64 0,.bool false,.bool false,.bool false,.bool false,.bool false,.bool false,.bool false,.bool false,.slice none 0 0,.slice none 0 0,.slice none 0 0,.nilFunc,.int .i64 0]:=by kernel_rfl
@[go_sem] theorem ZfL:tf Tryz.prog 135 0=some 0:=by kernel_rfl
@[go_sem] theorem ZfM:tf Tryz.prog 135 1=some 1:=by kernel_rfl
@[go_sem] theorem ZfN:tf Tryz.prog 135 2=some 2:=by kernel_rfl
@[go_sem] theorem ZfO:tf Tryz.prog 135 3=some 4:=by kernel_rfl
@[go_sem] theorem ZfP:tf Tryz.prog 135 4=some 7:=by kernel_rfl
@[go_sem] theorem ZfQ:tf Tryz.prog 135 5=some 9:=by kernel_rfl
@[go_sem] theorem ZfR:tf Tryz.prog 135 6=some 10:=by kernel_rfl
@[go_sem] theorem ZfS:tf Tryz.prog 135 7=some 11:=by kernel_rfl
@[go_sem] theorem ZfT:tf Tryz.prog 135 8=some 12:=by kernel_rfl
@[go_sem] theorem ZfU:tf Tryz.prog 135 9=some 52:=by kernel_rfl
@[go_sem] theorem Zch:tf Tryz.prog 135 10=some 53:=by kernel_rfl
@[go_sem] theorem Zci:tf Tryz.prog 135 11=some 54:=by kernel_rfl
@[go_sem] theorem Zcj:tf Tryz.prog 135 12=some 55:=by kernel_rfl
@[go_sem] theorem Zck:tf Tryz.prog 135 13=some 56:=by kernel_rfl
@[go_sem] theorem ZjS:S5 Tryz.prog 135=some [(0,1),(1,1),(2,2),(4,3),(7,2),(9,1),(10,1),(11,1),(12,40),(52,1),(53,1),(54,1),(55,1),(56,1)]:=by kernel_rfl
@[go_sem] theorem ZfV:YB Tryz.prog 135=none:=by kernel_rfl
@[go_sem] theorem ZfW:YB Tryz.prog 150=none:=by kernel_rfl
@[go_sem] theorem ZjT:Jg Tryz.prog 150=some 155:=by kernel_rfl
@[go_sem] theorem ZoZ:tn Tryz.prog 155=some 2:=by kernel_rfl
@[go_sem] theorem Zo0:ta Tryz.prog 155=some true:=by kernel_rfl
@[go_sem] theorem Zo1:tz Tryz.prog 155=some [.pointer none,.int .i64 0]:=by kernel_rfl
@[go_sem] theorem ZfX:tf Tryz.prog 155 0=some 0:=by kernel_rfl
@[go_sem] theorem ZfY:tf Tryz.prog 155 1=some 1:=by kernel_rfl
@[go_sem] theorem ZjU:S5 Tryz.prog 155=some [(0,1),(1,1)]:=by kernel_rfl
@[go_sem] theorem ZfZ:YB Tryz.prog 155=none:=by kernel_rfl
@[go_sem] theorem Pd:tn Tryz.prog 161=some 8:=by kernel_rfl
@[go_sem] theorem ag:tb Tryz.prog 161=some 64:=by kernel_rfl
@[go_sem] theorem Zo2:ta Tryz.prog 161=some true:=by kernel_rfl
@[go_sem] theorem ah:tz Tryz.prog 161=some [.int .i64 0,.int .i64 0,.int .i64 0,.int .i64 0,.int .i64 0,.int .i64 0,.int .i64 0,.int .i64 0]:=by kernel_rfl
@[go_sem] theorem Zf0:tf Tryz.prog 161 0=some 0:=by kernel_rfl
@[go_sem] theorem Zf1:tf Tryz.prog 161 1=some 1:=by kernel_rfl
@[go_sem] theorem Zf2:tf Tryz.prog 161 2=some 3:=by kernel_rfl
@[go_sem] theorem ZjV:S5 Tryz.prog 161=some [(0,1),(1,2),(3,5)]:=by kernel_rfl
@[go_sem] theorem ZjW:ub Tryz.prog 161=false:=by kernel_rfl
@[go_sem] theorem Zcl:flat Tryz.prog 6 161=some [some .i64,some .i64,some .i64,some .i64,some .i64,some .i64,some .i64,some .i64]:=by kernel_rfl
@[go_sem] theorem Zf3:YB Tryz.prog 161=none:=by kernel_rfl
@[go_sem] theorem jX:tn Tryz.prog 163=some 14:=by kernel_rfl
@[go_sem] theorem ur:tb Tryz.prog 163=some 128:=by kernel_rfl
@[go_sem] theorem Zo3:ta Tryz.prog 163=some true:=by kernel_rfl
@[go_sem] theorem ai:tz Tryz.prog 163=some [.int .i64 0,.int .i64 0,.int .i64 0,.int .i64 0,.int .i64 0,.int .i64 0,.int .i64 0,.int .i64 0,.int .i64 0,.int .i64 0,.int .i64 0,.int .i64 0,.int .i64 0,.slice none 0 0]:=by kernel_rfl
@[go_sem] theorem Zf4:tf Tryz.prog 163 0=some 0:=by kernel_rfl
@[go_sem] theorem Zf5:tf Tryz.prog 163 1=some 1:=by kernel_rfl
@[go_sem] theorem Zf6:tf Tryz.prog 163 2=some 2:=by kernel_rfl
@[go_sem] theorem Zf7:tf Tryz.prog 163 3=some 3:=by kernel_rfl
@[go_sem] theorem Zf8:tf Tryz.prog 163 4=some 5:=by kernel_rfl
@[go_sem] theorem Zf9:tf Tryz.prog 163 5=some 13:=by kernel_rfl
@[go_sem] theorem ZjX:S5 Tryz.prog 163=some [(0,1),(1,1),(2,1),(3,2),(5,8),(13,1)]:=by kernel_rfl
@[go_sem] theorem Zga:YB Tryz.prog 163=none:=by kernel_rfl
@[go_sem] theorem Zo4:tn Tryz.prog 173=some 64:=by kernel_rfl
@[go_sem] theorem Zo5:ta Tryz.prog 173=some true:=by kernel_rfl
@[go_sem] theorem Zo6:tz Tryz.prog 173=some [.int .u8 0,.int .u8 0,.int .u8 0,.int .u8 0,.int .u8 0,.int .u8 0,.int .u8 0,.int .u8 0,.int .u8 0,.int .u8 0,.int .u8 0,.int .u8 0,.int .u8 0,.int .u8 0,.int .u8 0,.int .u8 0,.int .u8 0,.int .u8 0,.int .u8 0,.int .u8 0,.int .u8 0,.int .u8 0,.int .u8 0,.int .u8 0,.int .u8 0,.int .u8 0,.int .u8 0,.int .u8 0,.int .u8 0,.int .u8 0,.int .u8 0,.int .u8 0,.int .u8 0,.int .u8 0,.int .u8 0,.int .u8 0,.int .u8 0,.int .u8 0,.int .u8 0,.int .u8 0,.int .u8 0,.int .u8 0,.int .u8 0,.int .u8 0,.int .u8 0,.int .u8 0,.int .u8 0,.int .u8 0,.int .u8 0,.int .u8 0,.int .u8 0,.int .u8 0,.int .u8 0,.int .u8 0,.int .u8 0,.int .u8 0,.int .u8 0,.int .u8 0,.int .u8 0,.int .u8 0,.int .u8 0,.int .u8 0,.int .u8 0,.int .u8 0]:=by kernel_rfl
@[go_sem] theorem Zgb:YB Tryz.prog 173=some (64,5):=by kernel_rfl
@[go_sem] theorem ZjY:Jg Tryz.prog 173=none:=by kernel_rfl
@[go_sem] theorem Zgc:Ua Tryz.prog 173=false:=by kernel_rfl
@[go_sem] theorem Zo7:tn Tryz.prog 175=some 1:=by kernel_rfl
@[go_sem] theorem Zo8:ta Tryz.prog 175=some false:=by kernel_rfl
@[go_sem] theorem Zgd:Kx Tryz.prog 175=some .u32:=by kernel_rfl
@[go_sem] theorem Zo9:tn Tryz.prog 178=some 1:=by kernel_rfl
@[go_sem] theorem Zpa:ta Tryz.prog 178=some false:=by kernel_rfl
@[go_sem] theorem Zpb:tn Tryz.prog 179=some 1:=by kernel_rfl
@[go_sem] theorem Zpc:ta Tryz.prog 179=some false:=by kernel_rfl
@[go_sem] theorem Zpd:tz Tryz.prog 181=some [.int .i64 0,.int .i64 0,.map none,.bool false,.map none,.map none]:=by kernel_rfl
@[go_sem] theorem Zge:tf Tryz.prog 181 0=some 0:=by kernel_rfl
@[go_sem] theorem Zgf:tf Tryz.prog 181 1=some 2:=by kernel_rfl
@[go_sem] theorem Zgg:tf Tryz.prog 181 2=some 3:=by kernel_rfl
@[go_sem] theorem Zgh:tf Tryz.prog 181 3=some 4:=by kernel_rfl
@[go_sem] theorem Zgi:tf Tryz.prog 181 4=some 5:=by kernel_rfl
@[go_sem] theorem ZjZ:S5 Tryz.prog 181=some [(0,2),(2,1),(3,1),(4,1),(5,1)]:=by kernel_rfl
@[go_sem] theorem Zgj:YB Tryz.prog 181=none:=by kernel_rfl
@[go_sem] theorem Zpe:tn Tryz.prog 189=some 8:=by kernel_rfl
@[go_sem] theorem Zpf:ta Tryz.prog 189=some true:=by kernel_rfl
@[go_sem] theorem Zpg:tz Tryz.prog 189=some [.int .u32 0,.int .u32 0,.int .u32 0,.int .u32 0,.int .u32 0,.int .u32 0,.int .u32 0,.int .u32 0]:=by kernel_rfl
@[go_sem] theorem Zj0:S5 Tryz.prog 189=none:=by kernel_rfl
@[go_sem] theorem Zgk:YB Tryz.prog 189=some (8,175):=by kernel_rfl
@[go_sem] theorem Zj1:Jg Tryz.prog 189=none:=by kernel_rfl
@[go_sem] theorem Zgl:Ua Tryz.prog 189=false:=by kernel_rfl
@[go_sem] theorem Zph:tn Tryz.prog 192=some 16:=by kernel_rfl
@[go_sem] theorem Zpi:ta Tryz.prog 192=some true:=by kernel_rfl
@[go_sem] theorem Zpj:tz Tryz.prog 192=some [.int .u32 0,.int .u32 0,.int .u32 0,.int .u32 0,.int .u32 0,.int .u32 0,.int .u32 0,.int .u32 0,.int .u32 0,.int .u32 0,.int .u32 0,.int .u32 0,.int .u32 0,.int .u32 0,.int .u32 0,.int .u32 0]:=by kernel_rfl
@[go_sem] theorem Zj2:S5 Tryz.prog 192=none:=by kernel_rfl
@[go_sem] theorem Zgm:YB Tryz.prog 192=some (16,175):=by kernel_rfl
@[go_sem] theorem Zj3:Jg Tryz.prog 192=none:=by kernel_rfl
@[go_sem] theorem Zpk:tz Tryz.prog 206=some [.int .u32 0,.int .u32 0,.int .u32 0,.int .u32 0,.int .u32 0,.int .u32 0,.int .u32 0,.int .u32 0,.int .u32 0,.int .u32 0,.int .u32 0,.int .u32 0,.int .u32 0,.int .u32 0,.int .u32 0,.int .u32 0,.int .u32 0,.int .u32 0,.int .u32 0,.int .u32 0,.int .u32 0,.int .u32 0,.int .u32 0,.int .u32 0,.int .u32 0,.int .u32 0,.int .u32 0,.int .u32 0,.int .u32 0,.int .u32 0,.int .u32 0,.int .u32 0,.int .u32 0,.int .u32 0,.int .u32 0,.int .u32 0,.int .u32 0,.int .u32 0,.int .u32 0,.int .u32 0,.int .u32 0,.int .u32 0,.int .u32 0,.int .u32 0,.int .u32 0,.int .u32 0,.int .u32 0,.int .u32 0,.int .u32 0,.int .u32 0,.int .u32 0,.int .u32 0,.int .u32 0,.int .u32 0,.int .u32 0,.int .u32 0,.int .u32 0,.int .u32 0,.int .u32 0,.int .u32 0,.int .u32 0,.int .u32 0,.int .u32 0,.int .u32 0]:=by kernel_rfl
@[go_sem] theorem Zgn:YB Tryz.prog 206=some (64,175):=by kernel_rfl
@[go_sem] theorem Zj4:Jg Tryz.prog 206=none:=by kernel_rfl
@[go_sem] theorem Zpl:tz Tryz.prog 208=some [.int .i64 0,.int .i64 0,.int .i64 0]:=by kernel_rfl
@[go_sem] theorem Zj5:S5 Tryz.prog 208=none:=by kernel_rfl
@[go_sem] theorem Zgo:YB Tryz.prog 208=some (3,3):=by kernel_rfl
@[go_sem] theorem Zgp:Ua Tryz.prog 208=false:=by kernel_rfl
@[go_sem] theorem Zpm:tn Tryz.prog 209=some 1:=by kernel_rfl
@[go_sem] theorem Zpn:ta Tryz.prog 209=some false:=by kernel_rfl
@[go_sem] theorem Zgq:Kx Tryz.prog 209=some .u64:=by kernel_rfl
@[go_sem] theorem Zpo:tn Tryz.prog 211=some 5:=by kernel_rfl
@[go_sem] theorem Zpp:ta Tryz.prog 211=some true:=by kernel_rfl
@[go_sem] theorem Zpq:tz Tryz.prog 211=some [.int .u64 0,.int .u64 0,.int .u64 0,.int .u64 0,.int .u64 0]:=by kernel_rfl
@[go_sem] theorem Zj6:S5 Tryz.prog 211=none:=by kernel_rfl
@[go_sem] theorem Zgr:YB Tryz.prog 211=some (5,209):=by kernel_rfl
@[go_sem] theorem Zj7:Jg Tryz.prog 211=none:=by kernel_rfl
@[go_sem] theorem Zgs:Ua Tryz.prog 211=false:=by kernel_rfl
@[go_sem] theorem Zpr:tz Tryz.prog 213=some [.int .u8 0,.int .u8 0,.int .u8 0,.int .u8 0,.int .u8 0,.int .u8 0,.int .u8 0,.int .u8 0,.int .u8 0,.int .u8 0,.int .u8 0,.int .u8 0,.int .u8 0,.int .u8 0,.int .u8 0,.int .u8 0,.int .u8 0]:=by kernel_rfl
@[go_sem] theorem Zgt:YB Tryz.prog 213=some (17,5):=by kernel_rfl
@[go_sem] theorem Zj8:Jg Tryz.prog 213=none:=by kernel_rfl
@[go_sem] theorem Zgu:Ua Tryz.prog 213=false:=by kernel_rfl
@[go_sem] theorem Zps:tn Tryz.prog 219=some 0:=by kernel_rfl
@[go_sem] theorem Zpt:tz Tryz.prog 219=some []:=by kernel_rfl
@[go_sem] theorem Zj9:S5 Tryz.prog 219=some []:=by kernel_rfl
@[go_sem] theorem Zgv:YB Tryz.prog 219=none:=by kernel_rfl
@[go_sem] theorem Zgw:YB Tryz.prog 245=none:=by kernel_rfl
@[go_sem] theorem wZ:Jg Tryz.prog 245=some 129:=by kernel_rfl
@[go_sem] theorem ZtO:goes Tryz.prog 16=true:=by kernel_rfl
@[go_sem] theorem ZtP:goes Tryz.prog 18=true:=by kernel_rfl
@[go_sem] theorem ZtQ:goes Tryz.prog 19=true:=by kernel_rfl
@[go_sem] theorem ZtR:goes Tryz.prog 20=true:=by kernel_rfl
@[go_sem] theorem ZtS:goes Tryz.prog 22=true:=by kernel_rfl
@[go_sem] theorem ZtT:goes Tryz.prog 23=true:=by kernel_rfl
@[go_sem] theorem ZtU:goes Tryz.prog 27=true:=by kernel_rfl
@[go_sem] theorem ZtV:goes Tryz.prog 28=true:=by kernel_rfl
@[go_sem] theorem ZtW:goes Tryz.prog 29=true:=by kernel_rfl
@[go_sem] theorem ZtX:goes Tryz.prog 30=true:=by kernel_rfl
@[go_sem] theorem ZtY:goes Tryz.prog 31=true:=by kernel_rfl
@[go_sem] theorem ZtZ:goes Tryz.prog 32=true:=by kernel_rfl
@[go_sem] theorem Zt0:goes Tryz.prog 33=true:=by kernel_rfl
@[go_sem] theorem Zt1:goes Tryz.prog 34=true:=by kernel_rfl
@[go_sem] theorem Zt2:goes Tryz.prog 35=true:=by kernel_rfl
@[go_sem] theorem Zt3:goes Tryz.prog 36=true:=by kernel_rfl
@[go_sem] theorem Zt4:goes Tryz.prog 37=true:=by kernel_rfl
@[go_sem] theorem Zt5:goes Tryz.prog 38=true:=by kernel_rfl
@[go_sem] theorem Zt6:goes Tryz.prog 40=true:=by kernel_rfl
@[go_sem] theorem Zt7:goes Tryz.prog 41=true:=by kernel_rfl
@[go_sem] theorem Zt8:goes Tryz.prog 42=true:=by kernel_rfl
@[go_sem] theorem Zt9:goes Tryz.prog 43=true:=by kernel_rfl
@[go_sem] theorem Zua:goes Tryz.prog 44=true:=by kernel_rfl
@[go_sem] theorem Zub:goes Tryz.prog 45=true:=by kernel_rfl
@[go_sem] theorem Zuc:goes Tryz.prog 46=true:=by kernel_rfl
@[go_sem] theorem Zud:goes Tryz.prog 47=true:=by kernel_rfl
@[go_sem] theorem Zue:goes Tryz.prog 48=true:=by kernel_rfl
@[go_sem] theorem Zuf:goes Tryz.prog 49=true:=by kernel_rfl
@[go_sem] theorem Zug:goes Tryz.prog 50=true:=by kernel_rfl
@[go_sem] theorem Zuh:goes Tryz.prog 51=true:=by kernel_rfl
@[go_sem] theorem Zui:goes Tryz.prog 52=true:=by kernel_rfl
@[go_sem] theorem Zuj:goes Tryz.prog 53=true:=by kernel_rfl
@[go_sem] theorem Zuk:goes Tryz.prog 54=true:=by kernel_rfl
@[go_sem] theorem Zul:goes Tryz.prog 55=true:=by kernel_rfl
@[go_sem] theorem Zum:goes Tryz.prog 56=true:=by kernel_rfl
@[go_sem] theorem Zun:goes Tryz.prog 57=true:=by kernel_rfl
@[go_sem] theorem Zuo:goes Tryz.prog 58=true:=by kernel_rfl
@[go_sem] theorem Zup:goes Tryz.prog 59=true:=by kernel_rfl
@[go_sem] theorem Zuq:goes Tryz.prog 60=true:=by kernel_rfl
@[go_sem] theorem Zur:goes Tryz.prog 61=true:=by kernel_rfl
@[go_sem] theorem Zus:goes Tryz.prog 62=true:=by kernel_rfl
@[go_sem] theorem Zut:goes Tryz.prog 63=true:=by kernel_rfl
@[go_sem] theorem Zuu:goes Tryz.prog 64=true:=by kernel_rfl
@[go_sem] theorem Zuv:goes Tryz.prog 65=true:=by kernel_rfl
@[go_sem] theorem Zuw:goes Tryz.prog 66=true:=by kernel_rfl
@[go_sem] theorem Zux:goes Tryz.prog 67=true:=by kernel_rfl
@[go_sem] theorem Zuy:goes Tryz.prog 68=true:=by kernel_rfl
@[go_sem] theorem Zuz:goes Tryz.prog 69=true:=by kernel_rfl
@[go_sem] theorem ZuA:goes Tryz.prog 70=true:=by kernel_rfl
@[go_sem] theorem ZuB:goes Tryz.prog 71=true:=by kernel_rfl
@[go_sem] theorem ZuC:goes Tryz.prog 72=true:=by kernel_rfl
@[go_sem] theorem ZuD:goes Tryz.prog 73=true:=by kernel_rfl
@[go_sem] theorem ZuE:goes Tryz.prog 74=true:=by kernel_rfl
@[go_sem] theorem ZuF:goes Tryz.prog 75=true:=by kernel_rfl
@[go_sem] theorem ZuG:goes Tryz.prog 76=true:=by kernel_rfl
@[go_sem] theorem ZuH:goes Tryz.prog 77=true:=by kernel_rfl
@[go_sem] theorem ZuI:goes Tryz.prog 78=true:=by kernel_rfl
@[go_sem] theorem ZuJ:goes Tryz.prog 79=true:=by kernel_rfl
@[go_sem] theorem ZuK:goes Tryz.prog 80=true:=by kernel_rfl
@[go_sem] theorem ZuL:goes Tryz.prog 81=true:=by kernel_rfl
@[go_sem] theorem ZuM:goes Tryz.prog 82=true:=by kernel_rfl
@[go_sem] theorem ZuN:goes Tryz.prog 83=true:=by kernel_rfl
@[go_sem] theorem ZuO:goes Tryz.prog 84=true:=by kernel_rfl
@[go_sem] theorem ZuP:goes Tryz.prog 85=true:=by kernel_rfl
@[go_sem] theorem ZuQ:goes Tryz.prog 86=true:=by kernel_rfl
@[go_sem] theorem ZuR:goes Tryz.prog 87=true:=by kernel_rfl
@[go_sem] theorem ZuS:goes Tryz.prog 88=true:=by kernel_rfl
@[go_sem] theorem ZuT:goes Tryz.prog 89=true:=by kernel_rfl
@[go_sem] theorem ZuU:goes Tryz.prog 90=true:=by kernel_rfl
@[go_sem] theorem ZuV:goes Tryz.prog 91=true:=by kernel_rfl
@[go_sem] theorem ZuW:goes Tryz.prog 92=true:=by kernel_rfl
@[go_sem] theorem ZuX:goes Tryz.prog 93=true:=by kernel_rfl
@[go_sem] theorem ZuY:goes Tryz.prog 94=true:=by kernel_rfl
@[go_sem] theorem ZuZ:goes Tryz.prog 95=true:=by kernel_rfl
@[go_sem] theorem Zu0:goes Tryz.prog 96=true:=by kernel_rfl
@[go_sem] theorem Zu1:goes Tryz.prog 97=true:=by kernel_rfl
@[go_sem] theorem Zu2:goes Tryz.prog 98=true:=by kernel_rfl
@[go_sem] theorem Zu3:goes Tryz.prog 99=true:=by kernel_rfl
@[go_sem] theorem Zpu:goes Tryz.prog 100=true:=by kernel_rfl
@[go_sem] theorem Zpv:goes Tryz.prog 101=true:=by kernel_rfl
@[go_sem] theorem Zpw:goes Tryz.prog 102=true:=by kernel_rfl
@[go_sem] theorem Zpx:goes Tryz.prog 103=true:=by kernel_rfl
@[go_sem] theorem Zpy:goes Tryz.prog 104=true:=by kernel_rfl
@[go_sem] theorem Zpz:goes Tryz.prog 105=true:=by kernel_rfl
@[go_sem] theorem ZpA:goes Tryz.prog 106=true:=by kernel_rfl
@[go_sem] theorem ZpB:goes Tryz.prog 107=true:=by kernel_rfl
@[go_sem] theorem ZpC:goes Tryz.prog 108=true:=by kernel_rfl
@[go_sem] theorem ZpD:goes Tryz.prog 109=true:=by kernel_rfl
@[go_sem] theorem ZpE:goes Tryz.prog 110=true:=by kernel_rfl
@[go_sem] theorem ZpF:goes Tryz.prog 111=true:=by kernel_rfl
@[go_sem] theorem ZpG:goes Tryz.prog 112=true:=by kernel_rfl
@[go_sem] theorem ZpH:goes Tryz.prog 113=true:=by kernel_rfl
@[go_sem] theorem ZpI:goes Tryz.prog 114=true:=by kernel_rfl
@[go_sem] theorem ZpJ:goes Tryz.prog 115=true:=by kernel_rfl
@[go_sem] theorem ZpK:goes Tryz.prog 116=true:=by kernel_rfl
@[go_sem] theorem ZpL:goes Tryz.prog 117=true:=by kernel_rfl
@[go_sem] theorem ZpM:goes Tryz.prog 118=true:=by kernel_rfl
@[go_sem] theorem ZpN:goes Tryz.prog 119=true:=by kernel_rfl
@[go_sem] theorem ZpO:goes Tryz.prog 120=true:=by kernel_rfl
@[go_sem] theorem ZpP:goes Tryz.prog 121=true:=by kernel_rfl
@[go_sem] theorem ZpQ:goes Tryz.prog 123=true:=by kernel_rfl
@[go_sem] theorem ZpR:goes Tryz.prog 125=true:=by kernel_rfl
@[go_sem] theorem ZpS:goes Tryz.prog 126=true:=by kernel_rfl
@[go_sem] theorem ZpT:goes Tryz.prog 128=true:=by kernel_rfl
@[go_sem] theorem ZpU:goes Tryz.prog 129=true:=by kernel_rfl
@[go_sem] theorem ZpV:goes Tryz.prog 132=true:=by kernel_rfl
@[go_sem] theorem ZpW:goes Tryz.prog 133=true:=by kernel_rfl
@[go_sem] theorem ZpX:goes Tryz.prog 134=true:=by kernel_rfl
@[go_sem] theorem ZpY:goes Tryz.prog 135=true:=by kernel_rfl
@[go_sem] theorem ZpZ:goes Tryz.prog 136=true:=by kernel_rfl
@[go_sem] theorem Zp0:goes Tryz.prog 137=true:=by kernel_rfl
@[go_sem] theorem Zp1:goes Tryz.prog 138=true:=by kernel_rfl
@[go_sem] theorem Zp2:goes Tryz.prog 139=true:=by kernel_rfl
@[go_sem] theorem Zp3:goes Tryz.prog 140=true:=by kernel_rfl
@[go_sem] theorem Zp4:goes Tryz.prog 141=true:=by kernel_rfl
@[go_sem] theorem Zp5:goes Tryz.prog 142=true:=by kernel_rfl
@[go_sem] theorem Zp6:goes Tryz.prog 143=true:=by kernel_rfl
@[go_sem] theorem Zp7:goes Tryz.prog 144=true:=by kernel_rfl
@[go_sem] theorem Zp8:goes Tryz.prog 145=true:=by kernel_rfl
@[go_sem] theorem Zp9:goes Tryz.prog 147=true:=by kernel_rfl
@[go_sem] theorem Zqa:goes Tryz.prog 148=true:=by kernel_rfl
@[go_sem] theorem Zqb:goes Tryz.prog 149=true:=by kernel_rfl
@[go_sem] theorem Zqc:goes Tryz.prog 150=true:=by kernel_rfl
@[go_sem] theorem Zqd:goes Tryz.prog 151=true:=by kernel_rfl
@[go_sem] theorem Zqe:goes Tryz.prog 152=true:=by kernel_rfl
@[go_sem] theorem Zqf:goes Tryz.prog 153=true:=by kernel_rfl
def IB:List Nat:=[104,97,114,110,101,115,115,32,49,56,50,49,49,53,53,51,52,100,101,101,100,98,98,102,102,50,56,48,51,53,56,49,56,102,55,102,49,56,52,102,48,101,49,98,50,102,100,56,101,52,54,97,99,101,51,97,51,55,54,53,54,53,50,97,54,52,102,100,97,49,51,102,32,99,117,116,32,97,116,32,99,111,110,99,108,97,118,101,47,99,111,110,99,108,97,118,101,116,111,112,46,84,111,112,71,114,111,119,115,32,99,111,110,99,108,97,118,101,47,99,111,110,99,108,97,118,101,116,111,112,46,84,111,112,70,111,114,103,101,100,32,99,111,110,99,108,97,118,101,47,99,111,110,99,108,97,118,101,116,111,112,46,84,111,112,76,101,97,100,101,114,108,101,115,115,32,99,111,110,99,108,97,118,101,47,99,111,110,99,108,97,118,101,116,111,112,46,84,111,112,66,97,100,32,99,111,110,99,108,97,118,101,47,99,111,110,99,108,97,118,101,116,111,112,46,84,111,112,67,104,97,105,110,115,32,99,111,110,99,108,97,118,101,47,99,111,110,99,108,97,118,101,116,111,112,46,84,111,112,82,101,97,100,115,32,99,111,110,99,108,97,118,101,47,99,111,110,99,108,97,118,101,116,111,112,46,84,111,112,83,101,116,116,108,101,100,32,99,111,110,99,108,97,118,101,47,99,111,110,99,108,97,118,101,116,111,112,46,84,111,112,83,101,114,118,101,100,32,99,111,110,99,108,97,118,101,47,99,111,110,99,108,97,118,101,116,111,112,46,84,111,112,84,111,108,100,32,99,111,110,99,108,97,118,101,47,99,111,110,99,108,97,118,101,116,111,112,46,84,111,112,67,114,97,115,104,32,99,111,110,99,108,97,118,101,47,99,111,110,99,108,97,118,101,116,111,112,46,84,111,112,79,110,99,101,32,99,111,110,99,108,97,118,101,47,99,111,110,99,108,97,118,101,116,111,112,46,84,111,112,67,108,105,101,110,116,115,32,99,111,110,99,108,97,118,101,47,99,111,110,99,108,97,118,101,116,111,112,46,84,111,112,82,101,118,111,107,101,100]
theorem CU:∃rest,Go.behindMainWord (Go.wordsSigns Tryz.prog.initOrder.toList) = "cut".toList :: rest:=
 db (L:=IB.map Char.ofNat) (by kernel_rfl) (by kernel_rfl)
theorem Zcm:Tryz.prog.make=some .cut:=CU.elim fun _ h=>jC h
theorem xd:Tryz.prog.liftsFinal=false:=CU.elim fun _ h=>cZ h
theorem xe:Tryz.prog.mayEnter=true:=CU.elim fun _ h=>da h (by kernel_rfl) (by kernel_rfl) (by kernel_rfl)
theorem jY:Go.ownKnob Tryz.prog.godebug=none:=by kernel_rfl
theorem jZ:Go.laidOutB Tryz.prog=true:=by kernel_rfl
theorem mixed:Tryz.prog.follows .mixedOrders=true:=by kernel_rfl
end Go.Proofs.YtkfhncfkagcamaaGreatDoor

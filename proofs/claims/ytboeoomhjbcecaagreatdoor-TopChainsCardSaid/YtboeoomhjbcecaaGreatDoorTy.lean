/- The tables of this seat's program, in V2's words. Printed by gen_ty.py. -/
import Derived.Test.YtboeoomhjbcecaaGreatDoorRows
import Derived.Test.YtboeoomhjbcecaaGreatDoorV9
import Derived.Test.YtboeoomhjbcecaaGreatDoorW3
import Derived.KernelRfl
namespace Go.Proofs.YtboeoomhjbcecaaGreatDoor
open Go.V
set_option maxRecDepth 100000
@[go_sem] theorem tn1:tn Tryz.prog 1=some 1:=by kernel_rfl
@[go_sem] theorem tb1:tb Tryz.prog 1=some 8:=by kernel_rfl
@[go_sem] theorem ta1:ta Tryz.prog 1=some false:=by kernel_rfl
@[go_sem] theorem tz1:tz Tryz.prog 1=some [.nilFunc]:=by kernel_rfl
@[go_sem] theorem AU:tb Tryz.prog 2=some 8:=by kernel_rfl
@[go_sem] theorem tn3:tn Tryz.prog 3=some 1:=by kernel_rfl
@[go_sem] theorem tb3:tb Tryz.prog 3=some 8:=by kernel_rfl
@[go_sem] theorem ta3:ta Tryz.prog 3=some false:=by kernel_rfl
@[go_sem] theorem tz3:tz Tryz.prog 3=some [.int .i64 0]:=by kernel_rfl
@[go_sem] theorem ZrL:IS Tryz.prog 3=some .i64:=by kernel_rfl
@[go_sem] theorem tn4:tn Tryz.prog 4=some 1:=by kernel_rfl
@[go_sem] theorem tb4:tb Tryz.prog 4=some 1:=by kernel_rfl
@[go_sem] theorem ta4:ta Tryz.prog 4=some false:=by kernel_rfl
@[go_sem] theorem Wi:tn Tryz.prog 5=some 1:=by kernel_rfl
@[go_sem] theorem WX:tb Tryz.prog 5=some 1:=by kernel_rfl
@[go_sem] theorem ta5:ta Tryz.prog 5=some false:=by kernel_rfl
@[go_sem] theorem WY:tz Tryz.prog 5=some [.int .u8 0]:=by kernel_rfl
@[go_sem] theorem ZrM:IS Tryz.prog 5=some .u8:=by kernel_rfl
@[go_sem] theorem Zlz:YF Tryz.prog 22=none:=by kernel_rfl
@[go_sem] theorem ZrN:JD Tryz.prog 22=some 61:=by kernel_rfl
@[go_sem] theorem ZlA:YF Tryz.prog 23=some (5,4):=by kernel_rfl
@[go_sem] theorem ZrO:JD Tryz.prog 23=none:=by kernel_rfl
@[go_sem] theorem ZwE:tn Tryz.prog 24=some 1:=by kernel_rfl
@[go_sem] theorem ZwF:ta Tryz.prog 24=some false:=by kernel_rfl
@[go_sem] theorem ZlB:YF Tryz.prog 24=none:=by kernel_rfl
@[go_sem] theorem Zfd:JD Tryz.prog 24=some 34:=by kernel_rfl
@[go_sem] theorem ZlC:YF Tryz.prog 25=some (5,3):=by kernel_rfl
@[go_sem] theorem ZrP:JD Tryz.prog 25=none:=by kernel_rfl
@[go_sem] theorem ZwG:tn Tryz.prog 26=some 1:=by kernel_rfl
@[go_sem] theorem ZwH:ta Tryz.prog 26=some false:=by kernel_rfl
@[go_sem] theorem Zfe:JD Tryz.prog 26=some 132:=by kernel_rfl
@[go_sem] theorem ZwI:tn Tryz.prog 28=some 13:=by kernel_rfl
@[go_sem] theorem ZwJ:ta Tryz.prog 28=some true:=by kernel_rfl
@[go_sem] theorem ZwK:tz Tryz.prog 28=some [.int .i64 0,.bool false,.bool false,.bool false,.bool false,.bool false,.slice none 0 0,.int .i64 0,.int .i64 0,.int .i64 0,.int .i64 0,.int .i64 0,.slice none 0 0]:=by kernel_rfl
@[go_sem] theorem ZlD:tf Tryz.prog 28 0=some 0:=by kernel_rfl
@[go_sem] theorem ZlE:tf Tryz.prog 28 1=some 1:=by kernel_rfl
@[go_sem] theorem ZlF:tf Tryz.prog 28 2=some 6:=by kernel_rfl
@[go_sem] theorem ZlG:tf Tryz.prog 28 3=some 7:=by kernel_rfl
@[go_sem] theorem ZlH:tf Tryz.prog 28 4=some 12:=by kernel_rfl
@[go_sem] theorem ZrQ:Rb Tryz.prog 28=some [(0,1),(1,5),(6,1),(7,5),(12,1)]:=by kernel_rfl
@[go_sem] theorem ZlI:YF Tryz.prog 28=none:=by kernel_rfl
@[go_sem] theorem ZlJ:YF Tryz.prog 31=none:=by kernel_rfl
@[go_sem] theorem nU:JD Tryz.prog 31=some 58:=by kernel_rfl
@[go_sem] theorem ZlK:tn Tryz.prog 34=some 1:=by kernel_rfl
@[go_sem] theorem ZlL:tb Tryz.prog 34=some 24:=by kernel_rfl
@[go_sem] theorem ZwL:ta Tryz.prog 34=some false:=by kernel_rfl
@[go_sem] theorem ZlM:tz Tryz.prog 34=some [.slice none 0 0]:=by kernel_rfl
@[go_sem] theorem ZlN:YF Tryz.prog 34=none:=by kernel_rfl
@[go_sem] theorem Ds:JD Tryz.prog 34=some 47:=by kernel_rfl
@[go_sem] theorem ZlO:Ul Tryz.prog 34=false:=by kernel_rfl
@[go_sem] theorem ZlP:YF Tryz.prog 35=none:=by kernel_rfl
@[go_sem] theorem Zff:JD Tryz.prog 35=some 50:=by kernel_rfl
@[go_sem] theorem ZwM:tn Tryz.prog 36=some 8:=by kernel_rfl
@[go_sem] theorem ZwN:ta Tryz.prog 36=some true:=by kernel_rfl
@[go_sem] theorem ZlQ:YF Tryz.prog 36=some (8,3):=by kernel_rfl
@[go_sem] theorem ZrR:JD Tryz.prog 36=none:=by kernel_rfl
@[go_sem] theorem ZlR:Ul Tryz.prog 36=false:=by kernel_rfl
@[go_sem] theorem ZwO:tn Tryz.prog 37=some 1:=by kernel_rfl
@[go_sem] theorem ZwP:ta Tryz.prog 37=some false:=by kernel_rfl
@[go_sem] theorem ZwQ:tn Tryz.prog 39=some 2:=by kernel_rfl
@[go_sem] theorem ZwR:ta Tryz.prog 39=some true:=by kernel_rfl
@[go_sem] theorem ZwS:tz Tryz.prog 39=some [.int .i64 0,.int .i64 0]:=by kernel_rfl
@[go_sem] theorem ZlS:tf Tryz.prog 39 0=some 0:=by kernel_rfl
@[go_sem] theorem ZlT:tf Tryz.prog 39 1=some 1:=by kernel_rfl
@[go_sem] theorem ZrS:Rb Tryz.prog 39=some [(0,1),(1,1)]:=by kernel_rfl
@[go_sem] theorem ZrT:uZ Tryz.prog 39=false:=by kernel_rfl
@[go_sem] theorem Zim:flat Tryz.prog 6 39=some [some .i64,some .i64]:=by kernel_rfl
@[go_sem] theorem ZlU:YF Tryz.prog 39=none:=by kernel_rfl
@[go_sem] theorem ZlV:YF Tryz.prog 40=some (8,39):=by kernel_rfl
@[go_sem] theorem ZrU:JD Tryz.prog 40=none:=by kernel_rfl
@[go_sem] theorem ZwT:tn Tryz.prog 41=some 8:=by kernel_rfl
@[go_sem] theorem ZwU:ta Tryz.prog 41=some true:=by kernel_rfl
@[go_sem] theorem ZwV:tz Tryz.prog 41=some [.bool false,.bool false,.bool false,.bool false,.bool false,.bool false,.bool false,.bool false]:=by kernel_rfl
@[go_sem] theorem ZrV:Rb Tryz.prog 41=none:=by kernel_rfl
@[go_sem] theorem ZlW:YF Tryz.prog 41=some (8,4):=by kernel_rfl
@[go_sem] theorem ZrW:JD Tryz.prog 41=none:=by kernel_rfl
@[go_sem] theorem ZlX:Ul Tryz.prog 41=false:=by kernel_rfl
@[go_sem] theorem ZwW:tn Tryz.prog 43=some 40:=by kernel_rfl
@[go_sem] theorem ZwX:ta Tryz.prog 43=some true:=by kernel_rfl
@[go_sem] theorem ZwY:tz Tryz.prog 43=some [.int .i64 0,.int .i64 0,.int .i64 0,.int .i64 0,.int .i64 0,.int .i64 0,.int .i64 0,.int .i64 0,.int .i64 0,.int .i64 0,.int .i64 0,.int .i64 0,.int .i64 0,.int .i64 0,.int .i64 0,.int .i64 0,.int .i64 0,.int .i64 0,.int .i64 0,.int .i64 0,.int .i64 0,.int .i64 0,.int .i64 0,.int .i64 0,.int .i64 0,.int .i64 0,.int .i64 0,.int .i64 0,.int .i64 0,.int .i64 0,.int .i64 0,.int .i64 0,.bool false,.bool false,.bool false,.bool false,.bool false,.bool false,.bool false,.bool false]:=by kernel_rfl
@[go_sem] theorem ZlY:tf Tryz.prog 43 0=some 0:=by kernel_rfl
@[go_sem] theorem ZlZ:tf Tryz.prog 43 1=some 8:=by kernel_rfl
@[go_sem] theorem Zl0:tf Tryz.prog 43 2=some 16:=by kernel_rfl
@[go_sem] theorem Zl1:tf Tryz.prog 43 3=some 32:=by kernel_rfl
@[go_sem] theorem ZrX:Rb Tryz.prog 43=some [(0,8),(8,8),(16,16),(32,8)]:=by kernel_rfl
@[go_sem] theorem ZrY:uZ Tryz.prog 43=false:=by kernel_rfl
@[go_sem] theorem Zin:flat Tryz.prog 6 43=some [some .i64,some .i64,some .i64,some .i64,some .i64,some .i64,some .i64,some .i64,some .i64,some .i64,some .i64,some .i64,some .i64,some .i64,some .i64,some .i64,some .i64,some .i64,some .i64,some .i64,some .i64,some .i64,some .i64,some .i64,some .i64,some .i64,some .i64,some .i64,some .i64,some .i64,some .i64,some .i64,none,none,none,none,none,none,none,none]:=by kernel_rfl
@[go_sem] theorem Zl2:YF Tryz.prog 43=none:=by kernel_rfl
@[go_sem] theorem Zbe:tn Tryz.prog 47=some 5:=by kernel_rfl
@[go_sem] theorem Zfg:tb Tryz.prog 47=some 40:=by kernel_rfl
@[go_sem] theorem ZwZ:ta Tryz.prog 47=some true:=by kernel_rfl
@[go_sem] theorem nV:tz Tryz.prog 47=some [.int .i64 0,.int .i64 0,.int .i64 0,.int .i64 0,.int .i64 0]:=by kernel_rfl
@[go_sem] theorem Zl3:tf Tryz.prog 47 0=some 0:=by kernel_rfl
@[go_sem] theorem Zl4:tf Tryz.prog 47 1=some 1:=by kernel_rfl
@[go_sem] theorem Zl5:tf Tryz.prog 47 2=some 2:=by kernel_rfl
@[go_sem] theorem Zl6:tf Tryz.prog 47 3=some 3:=by kernel_rfl
@[go_sem] theorem Zl7:tf Tryz.prog 47 4=some 4:=by kernel_rfl
@[go_sem] theorem ZrZ:Rb Tryz.prog 47=some [(0,1),(1,1),(2,1),(3,1),(4,1)]:=by kernel_rfl
@[go_sem] theorem Zr0:uZ Tryz.prog 47=false:=by kernel_rfl
@[go_sem] theorem Zio:flat Tryz.prog 6 47=some [some .i64,some .i64,some .i64,some .i64,some .i64]:=by kernel_rfl
@[go_sem] theorem Zl8:YF Tryz.prog 47=none:=by kernel_rfl
@[go_sem] theorem Zw0:tn Tryz.prog 48=some 1:=by kernel_rfl
@[go_sem] theorem Zw1:ta Tryz.prog 48=some false:=by kernel_rfl
@[go_sem] theorem Zl9:YF Tryz.prog 48=none:=by kernel_rfl
@[go_sem] theorem YA:JD Tryz.prog 48=some 5:=by kernel_rfl
@[go_sem] theorem Zma:Ul Tryz.prog 48=false:=by kernel_rfl
@[go_sem] theorem Zmb:tn Tryz.prog 50=some 8:=by kernel_rfl
@[go_sem] theorem Zmc:tb Tryz.prog 50=some 80:=by kernel_rfl
@[go_sem] theorem Zmd:tz Tryz.prog 50=some [.int .i64 0,.int .i64 0,.int .i64 0,.int .i64 0,.int .i64 0,.int .i64 0,.int .i64 0,.slice none 0 0]:=by kernel_rfl
@[go_sem] theorem Zme:tf Tryz.prog 50 2=some 7:=by kernel_rfl
@[go_sem] theorem Zr1:Rb Tryz.prog 50=some [(0,5),(5,2),(7,1)]:=by kernel_rfl
@[go_sem] theorem Zmf:YF Tryz.prog 50=none:=by kernel_rfl
@[go_sem] theorem Zbf:tn Tryz.prog 58=some 5:=by kernel_rfl
@[go_sem] theorem Zbg:tb Tryz.prog 58=some 56:=by kernel_rfl
@[go_sem] theorem Zw2:ta Tryz.prog 58=some true:=by kernel_rfl
@[go_sem] theorem Zbh:tz Tryz.prog 58=some [.int .i64 0,.int .i64 0,.int .i64 0,.int .i64 0,.slice none 0 0]:=by kernel_rfl
@[go_sem] theorem Zmg:tf Tryz.prog 58 0=some 0:=by kernel_rfl
@[go_sem] theorem Zmh:tf Tryz.prog 58 1=some 1:=by kernel_rfl
@[go_sem] theorem Zmi:tf Tryz.prog 58 2=some 2:=by kernel_rfl
@[go_sem] theorem Zmj:tf Tryz.prog 58 3=some 3:=by kernel_rfl
@[go_sem] theorem Zmk:tf Tryz.prog 58 4=some 4:=by kernel_rfl
@[go_sem] theorem Zr2:Rb Tryz.prog 58=some [(0,1),(1,1),(2,1),(3,1),(4,1)]:=by kernel_rfl
@[go_sem] theorem Zml:YF Tryz.prog 58=none:=by kernel_rfl
@[go_sem] theorem Zw3:tn Tryz.prog 61=some 5:=by kernel_rfl
@[go_sem] theorem Zw4:ta Tryz.prog 61=some true:=by kernel_rfl
@[go_sem] theorem Zmm:tf Tryz.prog 61 0=some 0:=by kernel_rfl
@[go_sem] theorem Zmn:tf Tryz.prog 61 1=some 1:=by kernel_rfl
@[go_sem] theorem Zmo:tf Tryz.prog 61 2=some 2:=by kernel_rfl
@[go_sem] theorem Zmp:tf Tryz.prog 61 3=some 3:=by kernel_rfl
@[go_sem] theorem Zmq:tf Tryz.prog 61 4=some 4:=by kernel_rfl
@[go_sem] theorem Zw5:tn Tryz.prog 67=some 1:=by kernel_rfl
@[go_sem] theorem Zw6:ta Tryz.prog 67=some false:=by kernel_rfl
@[go_sem] theorem Zw7:tn Tryz.prog 70=some 1:=by kernel_rfl
@[go_sem] theorem Zw8:ta Tryz.prog 70=some false:=by kernel_rfl
@[go_sem] theorem Zmr:YF Tryz.prog 70=none:=by kernel_rfl
@[go_sem] theorem Zfh:JD Tryz.prog 70=some 74:=by kernel_rfl
@[go_sem] theorem Zw9:tn Tryz.prog 71=some 1:=by kernel_rfl
@[go_sem] theorem Zxa:ta Tryz.prog 71=some false:=by kernel_rfl
@[go_sem] theorem Zms:YF Tryz.prog 71=none:=by kernel_rfl
@[go_sem] theorem dE:JD Tryz.prog 71=some 111:=by kernel_rfl
@[go_sem] theorem Zmt:Ul Tryz.prog 71=false:=by kernel_rfl
@[go_sem] theorem Zxb:tz Tryz.prog 73=some [.slice none 0 0,.slice none 0 0,.int .i64 0,.bool false,.bool false,.bool false,.bool false,.bool false,.slice none 0 0,.int .i64 0,.int .i64 0,.int .i64 0,.int .i64 0,.int .i64 0,.slice none 0 0]:=by kernel_rfl
@[go_sem] theorem Zmu:tf Tryz.prog 73 0=some 0:=by kernel_rfl
@[go_sem] theorem Zmv:tf Tryz.prog 73 1=some 1:=by kernel_rfl
@[go_sem] theorem Zmw:tf Tryz.prog 73 2=some 2:=by kernel_rfl
@[go_sem] theorem Zr3:Rb Tryz.prog 73=some [(0,1),(1,1),(2,13)]:=by kernel_rfl
@[go_sem] theorem Zmx:YF Tryz.prog 73=none:=by kernel_rfl
@[go_sem] theorem Zmy:tn Tryz.prog 74=some 1:=by kernel_rfl
@[go_sem] theorem Zmz:tb Tryz.prog 74=some 8:=by kernel_rfl
@[go_sem] theorem Zxc:ta Tryz.prog 74=some false:=by kernel_rfl
@[go_sem] theorem ZmA:tz Tryz.prog 74=some [.pointer none]:=by kernel_rfl
@[go_sem] theorem Zxd:tn Tryz.prog 76=some 2:=by kernel_rfl
@[go_sem] theorem Zxe:ta Tryz.prog 76=some true:=by kernel_rfl
@[go_sem] theorem Zxf:tz Tryz.prog 76=some [.slice none 0 0,.int .i64 0]:=by kernel_rfl
@[go_sem] theorem ZmB:tf Tryz.prog 76 0=some 0:=by kernel_rfl
@[go_sem] theorem ZmC:tf Tryz.prog 76 1=some 1:=by kernel_rfl
@[go_sem] theorem Zr4:Rb Tryz.prog 76=some [(0,1),(1,1)]:=by kernel_rfl
@[go_sem] theorem ZmD:YF Tryz.prog 76=none:=by kernel_rfl
@[go_sem] theorem Zxg:tn Tryz.prog 78=some 2:=by kernel_rfl
@[go_sem] theorem Zxh:ta Tryz.prog 78=some true:=by kernel_rfl
@[go_sem] theorem Zxi:tz Tryz.prog 78=some [.int .i64 0,.int .i64 0]:=by kernel_rfl
@[go_sem] theorem ZmE:tf Tryz.prog 78 0=some 0:=by kernel_rfl
@[go_sem] theorem ZmF:tf Tryz.prog 78 1=some 1:=by kernel_rfl
@[go_sem] theorem Zr5:Rb Tryz.prog 78=some [(0,1),(1,1)]:=by kernel_rfl
@[go_sem] theorem Zr6:uZ Tryz.prog 78=false:=by kernel_rfl
@[go_sem] theorem Ziq:flat Tryz.prog 6 78=some [some .i64,some .i64]:=by kernel_rfl
@[go_sem] theorem ZmG:YF Tryz.prog 78=none:=by kernel_rfl
@[go_sem] theorem ZmH:tn Tryz.prog 79=some 1:=by kernel_rfl
@[go_sem] theorem ZmI:tb Tryz.prog 79=some 24:=by kernel_rfl
@[go_sem] theorem Zxj:ta Tryz.prog 79=some false:=by kernel_rfl
@[go_sem] theorem ZmJ:tz Tryz.prog 79=some [.slice none 0 0]:=by kernel_rfl
@[go_sem] theorem ZmK:YF Tryz.prog 79=none:=by kernel_rfl
@[go_sem] theorem Mk:JD Tryz.prog 79=some 109:=by kernel_rfl
@[go_sem] theorem ZmL:Ul Tryz.prog 79=false:=by kernel_rfl
@[go_sem] theorem Zxk:tn Tryz.prog 81=some 3:=by kernel_rfl
@[go_sem] theorem Zxl:ta Tryz.prog 81=some true:=by kernel_rfl
@[go_sem] theorem Zxm:tz Tryz.prog 81=some [.int .i64 0,.int .i64 0,.slice none 0 0]:=by kernel_rfl
@[go_sem] theorem ZmM:tf Tryz.prog 81 0=some 0:=by kernel_rfl
@[go_sem] theorem ZmN:tf Tryz.prog 81 1=some 2:=by kernel_rfl
@[go_sem] theorem Zr7:Rb Tryz.prog 81=some [(0,2),(2,1)]:=by kernel_rfl
@[go_sem] theorem ZmO:YF Tryz.prog 81=none:=by kernel_rfl
@[go_sem] theorem Zxn:tn Tryz.prog 82=some 1:=by kernel_rfl
@[go_sem] theorem Zxo:ta Tryz.prog 82=some false:=by kernel_rfl
@[go_sem] theorem Zxp:tn Tryz.prog 83=some 1:=by kernel_rfl
@[go_sem] theorem Zxq:ta Tryz.prog 83=some false:=by kernel_rfl
@[go_sem] theorem Zxr:tz Tryz.prog 85=some [.int .i64 0,.bool false,.slice none 0 0,.int .i64 0,.int .i64 0,.int .i64 0,.slice none 0 0,.int .i64 0,.int .i64 0,.pointer none,.map none,.slice none 0 0,.int .i64 0,.int .i64 0,.int .i64 0,.int .i64 0,.int .i64 0,.int .i64 0,.int .i64 0,.int .i64 0,.int .i64 0,.int .i64 0,.int .i64 0,.int .i64 0,.int .i64 0,.int .i64 0,.int .i64 0,.int .i64 0,.int .i64 0,.int .i64 0,.int .i64 0,.int .i64 0,.int .i64 0,.int .i64 0,.int .i64 0,.int .i64 0,.int .i64 0,.int .i64 0,.int .i64 0,.int .i64 0,.int .i64 0,.int .i64 0,.int .i64 0,.int .i64 0,.bool false,.bool false,.bool false,.bool false,.bool false,.bool false,.bool false,.bool false,.slice none 0 0,.slice none 0 0,.slice none 0 0,.nilFunc,.int .i64 0]:=by kernel_rfl
@[go_sem] theorem ZmP:tf Tryz.prog 85 0=some 0:=by kernel_rfl
@[go_sem] theorem ZmQ:tf Tryz.prog 85 1=some 1:=by kernel_rfl
@[go_sem] theorem ZmR:tf Tryz.prog 85 2=some 2:=by kernel_rfl
@[go_sem] theorem ZmS:tf Tryz.prog 85 3=some 4:=by kernel_rfl
@[go_sem] theorem ZmT:tf Tryz.prog 85 4=some 7:=by kernel_rfl
@[go_sem] theorem ZmU:tf Tryz.prog 85 5=some 9:=by kernel_rfl
@[go_sem] theorem ZmV:tf Tryz.prog 85 6=some 10:=by kernel_rfl
@[go_sem] theorem ZmW:tf Tryz.prog 85 7=some 11:=by kernel_rfl
@[go_sem] theorem ZmX:tf Tryz.prog 85 8=some 12:=by kernel_rfl
@[go_sem] theorem ZmY:tf Tryz.prog 85 9=some 52:=by kernel_rfl
@[go_sem] theorem Zir:tf Tryz.prog 85 10=some 53:=by kernel_rfl
@[go_sem] theorem Zis:tf Tryz.prog 85 11=some 54:=by kernel_rfl
@[go_sem] theorem Zit:tf Tryz.prog 85 12=some 55:=by kernel_rfl
@[go_sem] theorem Ziu:tf Tryz.prog 85 13=some 56:=by kernel_rfl
@[go_sem] theorem Zr8:Rb Tryz.prog 85=some [(0,1),(1,1),(2,2),(4,3),(7,2),(9,1),(10,1),(11,1),(12,40),(52,1),(53,1),(54,1),(55,1),(56,1)]:=by kernel_rfl
@[go_sem] theorem ZmZ:YF Tryz.prog 85=none:=by kernel_rfl
@[go_sem] theorem Zxs:tn Tryz.prog 90=some 1:=by kernel_rfl
@[go_sem] theorem Zxt:ta Tryz.prog 90=some false:=by kernel_rfl
@[go_sem] theorem Zxu:tz Tryz.prog 95=some [.int .i64 0,.int .i64 0]:=by kernel_rfl
@[go_sem] theorem Zr9:Rb Tryz.prog 95=none:=by kernel_rfl
@[go_sem] theorem Zm0:YF Tryz.prog 95=some (2,3):=by kernel_rfl
@[go_sem] theorem Zm1:Ul Tryz.prog 95=false:=by kernel_rfl
@[go_sem] theorem Zm2:IS Tryz.prog 96=some .u64:=by kernel_rfl
@[go_sem] theorem Zm3:YF Tryz.prog 98=none:=by kernel_rfl
@[go_sem] theorem Zsa:JD Tryz.prog 98=some 103:=by kernel_rfl
@[go_sem] theorem Zsb:tn Tryz.prog 103=some 2:=by kernel_rfl
@[go_sem] theorem Zsc:ta Tryz.prog 103=some true:=by kernel_rfl
@[go_sem] theorem Zsd:tz Tryz.prog 103=some [.pointer none,.int .i64 0]:=by kernel_rfl
@[go_sem] theorem Ziv:tf Tryz.prog 103 0=some 0:=by kernel_rfl
@[go_sem] theorem Ziw:tf Tryz.prog 103 1=some 1:=by kernel_rfl
@[go_sem] theorem Zm4:Rb Tryz.prog 103=some [(0,1),(1,1)]:=by kernel_rfl
@[go_sem] theorem Zix:YF Tryz.prog 103=none:=by kernel_rfl
@[go_sem] theorem Of:tn Tryz.prog 109=some 8:=by kernel_rfl
@[go_sem] theorem dF:tb Tryz.prog 109=some 64:=by kernel_rfl
@[go_sem] theorem Zse:ta Tryz.prog 109=some true:=by kernel_rfl
@[go_sem] theorem dG:tz Tryz.prog 109=some [.int .i64 0,.int .i64 0,.int .i64 0,.int .i64 0,.int .i64 0,.int .i64 0,.int .i64 0,.int .i64 0]:=by kernel_rfl
@[go_sem] theorem Ziy:tf Tryz.prog 109 0=some 0:=by kernel_rfl
@[go_sem] theorem Ziz:tf Tryz.prog 109 1=some 1:=by kernel_rfl
@[go_sem] theorem ZiA:tf Tryz.prog 109 2=some 3:=by kernel_rfl
@[go_sem] theorem Zm5:Rb Tryz.prog 109=some [(0,1),(1,2),(3,5)]:=by kernel_rfl
@[go_sem] theorem Zm6:uZ Tryz.prog 109=false:=by kernel_rfl
@[go_sem] theorem Zfi:flat Tryz.prog 6 109=some [some .i64,some .i64,some .i64,some .i64,some .i64,some .i64,some .i64,some .i64]:=by kernel_rfl
@[go_sem] theorem ZiB:YF Tryz.prog 109=none:=by kernel_rfl
@[go_sem] theorem nW:tn Tryz.prog 111=some 14:=by kernel_rfl
@[go_sem] theorem zv:tb Tryz.prog 111=some 128:=by kernel_rfl
@[go_sem] theorem Zsf:ta Tryz.prog 111=some true:=by kernel_rfl
@[go_sem] theorem dH:tz Tryz.prog 111=some [.int .i64 0,.int .i64 0,.int .i64 0,.int .i64 0,.int .i64 0,.int .i64 0,.int .i64 0,.int .i64 0,.int .i64 0,.int .i64 0,.int .i64 0,.int .i64 0,.int .i64 0,.slice none 0 0]:=by kernel_rfl
@[go_sem] theorem ZiC:tf Tryz.prog 111 0=some 0:=by kernel_rfl
@[go_sem] theorem ZiD:tf Tryz.prog 111 1=some 1:=by kernel_rfl
@[go_sem] theorem ZiE:tf Tryz.prog 111 2=some 2:=by kernel_rfl
@[go_sem] theorem ZiF:tf Tryz.prog 111 3=some 3:=by kernel_rfl
@[go_sem] theorem ZiG:tf Tryz.prog 111 4=some 5:=by kernel_rfl
@[go_sem] theorem ZiH:tf Tryz.prog 111 5=some 13:=by kernel_rfl
@[go_sem] theorem Zm7:Rb Tryz.prog 111=some [(0,1),(1,1),(2,1),(3,2),(5,8),(13,1)]:=by kernel_rfl
@[go_sem] theorem ZiI:YF Tryz.prog 111=none:=by kernel_rfl
@[go_sem] theorem Zsg:tz Tryz.prog 119=some [.int .i64 0,.int .i64 0,.int .i64 0,.int .i64 0,.int .i64 0]:=by kernel_rfl
@[go_sem] theorem ZiJ:tf Tryz.prog 119 0=some 0:=by kernel_rfl
@[go_sem] theorem ZiK:tf Tryz.prog 119 1=some 1:=by kernel_rfl
@[go_sem] theorem ZiL:tf Tryz.prog 119 2=some 2:=by kernel_rfl
@[go_sem] theorem ZiM:tf Tryz.prog 119 3=some 3:=by kernel_rfl
@[go_sem] theorem ZiN:tf Tryz.prog 119 4=some 4:=by kernel_rfl
@[go_sem] theorem Zm8:Rb Tryz.prog 119=some [(0,1),(1,1),(2,1),(3,1),(4,1)]:=by kernel_rfl
@[go_sem] theorem ZiO:YF Tryz.prog 119=none:=by kernel_rfl
@[go_sem] theorem Zsh:tn Tryz.prog 121=some 3:=by kernel_rfl
@[go_sem] theorem Zsi:ta Tryz.prog 121=some true:=by kernel_rfl
@[go_sem] theorem Zsj:tz Tryz.prog 121=some [.int .i64 0,.int .i64 0,.int .i64 0]:=by kernel_rfl
@[go_sem] theorem ZiP:tf Tryz.prog 121 0=some 0:=by kernel_rfl
@[go_sem] theorem ZiQ:tf Tryz.prog 121 1=some 1:=by kernel_rfl
@[go_sem] theorem ZiR:tf Tryz.prog 121 2=some 2:=by kernel_rfl
@[go_sem] theorem Zm9:Rb Tryz.prog 121=some [(0,1),(1,1),(2,1)]:=by kernel_rfl
@[go_sem] theorem ZiS:YF Tryz.prog 121=none:=by kernel_rfl
@[go_sem] theorem Zsk:tn Tryz.prog 124=some 5:=by kernel_rfl
@[go_sem] theorem Zsl:ta Tryz.prog 124=some true:=by kernel_rfl
@[go_sem] theorem Zsm:tz Tryz.prog 124=some [.pointer none,.pointer none,.pointer none,.pointer none,.pointer none]:=by kernel_rfl
@[go_sem] theorem Zna:Rb Tryz.prog 124=none:=by kernel_rfl
@[go_sem] theorem ZiT:YF Tryz.prog 124=some (5,90):=by kernel_rfl
@[go_sem] theorem ZiU:Ul Tryz.prog 124=false:=by kernel_rfl
@[go_sem] theorem Zfj:tn Tryz.prog 132=some 5:=by kernel_rfl
@[go_sem] theorem Zfk:tb Tryz.prog 132=some 40:=by kernel_rfl
@[go_sem] theorem Zfl:tz Tryz.prog 132=some [.int .i64 0,.int .i64 0,.int .i64 0,.int .i64 0,.int .i64 0]:=by kernel_rfl
@[go_sem] theorem Znb:Rb Tryz.prog 132=some [(0,1),(1,1),(2,1),(3,2)]:=by kernel_rfl
@[go_sem] theorem ZiV:YF Tryz.prog 132=none:=by kernel_rfl
@[go_sem] theorem Zsn:tn Tryz.prog 135=some 1:=by kernel_rfl
@[go_sem] theorem Zso:ta Tryz.prog 135=some false:=by kernel_rfl
@[go_sem] theorem Zsp:tn Tryz.prog 136=some 1:=by kernel_rfl
@[go_sem] theorem Zsq:ta Tryz.prog 136=some false:=by kernel_rfl
@[go_sem] theorem Zsr:tz Tryz.prog 138=some [.int .i64 0,.int .i64 0,.map none,.bool false,.map none,.map none]:=by kernel_rfl
@[go_sem] theorem ZiW:tf Tryz.prog 138 0=some 0:=by kernel_rfl
@[go_sem] theorem ZiX:tf Tryz.prog 138 1=some 2:=by kernel_rfl
@[go_sem] theorem ZiY:tf Tryz.prog 138 2=some 3:=by kernel_rfl
@[go_sem] theorem ZiZ:tf Tryz.prog 138 3=some 4:=by kernel_rfl
@[go_sem] theorem Zi0:tf Tryz.prog 138 4=some 5:=by kernel_rfl
@[go_sem] theorem Znc:Rb Tryz.prog 138=some [(0,2),(2,1),(3,1),(4,1),(5,1)]:=by kernel_rfl
@[go_sem] theorem Zi1:YF Tryz.prog 138=none:=by kernel_rfl
@[go_sem] theorem Zss:tn Tryz.prog 150=some 11:=by kernel_rfl
@[go_sem] theorem Zst:ta Tryz.prog 150=some true:=by kernel_rfl
@[go_sem] theorem Zsu:tz Tryz.prog 150=some [.slice none 0 0,.int .i64 0,.int .i64 0,.bool false,.bool false,.bool false,.bool false,.bool false,.bool false,.bool false,.bool false]:=by kernel_rfl
@[go_sem] theorem Zi2:tf Tryz.prog 150 0=some 0:=by kernel_rfl
@[go_sem] theorem Zi3:tf Tryz.prog 150 1=some 1:=by kernel_rfl
@[go_sem] theorem Zi4:tf Tryz.prog 150 2=some 2:=by kernel_rfl
@[go_sem] theorem Zi5:tf Tryz.prog 150 3=some 3:=by kernel_rfl
@[go_sem] theorem Znd:Rb Tryz.prog 150=some [(0,1),(1,1),(2,1),(3,8)]:=by kernel_rfl
@[go_sem] theorem Zi6:YF Tryz.prog 150=none:=by kernel_rfl
@[go_sem] theorem Zsv:tn Tryz.prog 153=some 1:=by kernel_rfl
@[go_sem] theorem Zsw:ta Tryz.prog 153=some false:=by kernel_rfl
@[go_sem] theorem Zi7:IS Tryz.prog 153=some .u32:=by kernel_rfl
@[go_sem] theorem Zsx:tn Tryz.prog 155=some 8:=by kernel_rfl
@[go_sem] theorem Zsy:ta Tryz.prog 155=some true:=by kernel_rfl
@[go_sem] theorem Zsz:tz Tryz.prog 155=some [.int .u32 0,.int .u32 0,.int .u32 0,.int .u32 0,.int .u32 0,.int .u32 0,.int .u32 0,.int .u32 0]:=by kernel_rfl
@[go_sem] theorem Zne:Rb Tryz.prog 155=none:=by kernel_rfl
@[go_sem] theorem Zi8:YF Tryz.prog 155=some (8,153):=by kernel_rfl
@[go_sem] theorem Znf:JD Tryz.prog 155=none:=by kernel_rfl
@[go_sem] theorem Zi9:Ul Tryz.prog 155=false:=by kernel_rfl
@[go_sem] theorem ZsA:tz Tryz.prog 179=some [.int .u32 0,.int .u32 0,.int .u32 0,.int .u32 0,.int .u32 0,.int .u32 0,.int .u32 0,.int .u32 0,.int .u32 0,.int .u32 0,.int .u32 0,.int .u32 0,.int .u32 0,.int .u32 0,.int .u32 0,.int .u32 0,.int .u32 0,.int .u32 0,.int .u32 0,.int .u32 0,.int .u32 0,.int .u32 0,.int .u32 0,.int .u32 0,.int .u32 0,.int .u32 0,.int .u32 0,.int .u32 0,.int .u32 0,.int .u32 0,.int .u32 0,.int .u32 0,.int .u32 0,.int .u32 0,.int .u32 0,.int .u32 0,.int .u32 0,.int .u32 0,.int .u32 0,.int .u32 0,.int .u32 0,.int .u32 0,.int .u32 0,.int .u32 0,.int .u32 0,.int .u32 0,.int .u32 0,.int .u32 0,.int .u32 0,.int .u32 0,.int .u32 0,.int .u32 0,.int .u32 0,.int .u32 0,.int .u32 0,.int .u32 0,.int .u32 0,.int .u32 0,.int .u32 0,.int .u32 0,.int .u32 0,.int .u32 0,.int .u32 0,.int .u32 0]:=by kernel_rfl
@[go_sem] theorem Zja:YF Tryz.prog 179=some (64,153):=by kernel_rfl
@[go_sem] theorem Zng:JD Tryz.prog 179=none:=by kernel_rfl
@[go_sem] theorem ZsB:tz Tryz.prog 183=some [.int .i64 0,.int .i64 0,.int .i64 0,.int .i64 0]:=by kernel_rfl
@[go_sem] theorem Znh:Rb Tryz.prog 183=none:=by kernel_rfl
@[go_sem] theorem Zjb:YF Tryz.prog 183=some (4,3):=by kernel_rfl
@[go_sem] theorem Zni:JD Tryz.prog 183=none:=by kernel_rfl
@[go_sem] theorem Zjc:Ul Tryz.prog 183=false:=by kernel_rfl
@[go_sem] theorem ZsC:tn Tryz.prog 186=some 0:=by kernel_rfl
@[go_sem] theorem ZsD:tz Tryz.prog 186=some []:=by kernel_rfl
@[go_sem] theorem Znj:Rb Tryz.prog 186=some []:=by kernel_rfl
@[go_sem] theorem Zjd:YF Tryz.prog 186=none:=by kernel_rfl
@[go_sem] theorem Zje:YF Tryz.prog 216=none:=by kernel_rfl
@[go_sem] theorem Zbi:JD Tryz.prog 216=some 79:=by kernel_rfl
@[go_sem] theorem ZsE:tn Tryz.prog 224=some 64:=by kernel_rfl
@[go_sem] theorem ZsF:ta Tryz.prog 224=some true:=by kernel_rfl
@[go_sem] theorem ZsG:tz Tryz.prog 224=some [.int .u8 0,.int .u8 0,.int .u8 0,.int .u8 0,.int .u8 0,.int .u8 0,.int .u8 0,.int .u8 0,.int .u8 0,.int .u8 0,.int .u8 0,.int .u8 0,.int .u8 0,.int .u8 0,.int .u8 0,.int .u8 0,.int .u8 0,.int .u8 0,.int .u8 0,.int .u8 0,.int .u8 0,.int .u8 0,.int .u8 0,.int .u8 0,.int .u8 0,.int .u8 0,.int .u8 0,.int .u8 0,.int .u8 0,.int .u8 0,.int .u8 0,.int .u8 0,.int .u8 0,.int .u8 0,.int .u8 0,.int .u8 0,.int .u8 0,.int .u8 0,.int .u8 0,.int .u8 0,.int .u8 0,.int .u8 0,.int .u8 0,.int .u8 0,.int .u8 0,.int .u8 0,.int .u8 0,.int .u8 0,.int .u8 0,.int .u8 0,.int .u8 0,.int .u8 0,.int .u8 0,.int .u8 0,.int .u8 0,.int .u8 0,.int .u8 0,.int .u8 0,.int .u8 0,.int .u8 0,.int .u8 0,.int .u8 0,.int .u8 0,.int .u8 0]:=by kernel_rfl
@[go_sem] theorem Zjf:YF Tryz.prog 224=some (64,5):=by kernel_rfl
@[go_sem] theorem Znk:JD Tryz.prog 224=none:=by kernel_rfl
@[go_sem] theorem Zjg:Ul Tryz.prog 224=false:=by kernel_rfl
@[go_sem] theorem Zjh:YF Tryz.prog 227=none:=by kernel_rfl
@[go_sem] theorem Znl:JD Tryz.prog 227=some 3:=by kernel_rfl
@[go_sem] theorem ZsH:tn Tryz.prog 229=some 16:=by kernel_rfl
@[go_sem] theorem ZsI:ta Tryz.prog 229=some true:=by kernel_rfl
@[go_sem] theorem ZsJ:tz Tryz.prog 229=some [.int .u32 0,.int .u32 0,.int .u32 0,.int .u32 0,.int .u32 0,.int .u32 0,.int .u32 0,.int .u32 0,.int .u32 0,.int .u32 0,.int .u32 0,.int .u32 0,.int .u32 0,.int .u32 0,.int .u32 0,.int .u32 0]:=by kernel_rfl
@[go_sem] theorem Znm:Rb Tryz.prog 229=none:=by kernel_rfl
@[go_sem] theorem Zji:YF Tryz.prog 229=some (16,153):=by kernel_rfl
@[go_sem] theorem Znn:JD Tryz.prog 229=none:=by kernel_rfl
@[go_sem] theorem ZsK:tz Tryz.prog 234=some [.int .i64 0,.int .i64 0,.int .i64 0]:=by kernel_rfl
@[go_sem] theorem Zno:Rb Tryz.prog 234=none:=by kernel_rfl
@[go_sem] theorem Zjj:YF Tryz.prog 234=some (3,3):=by kernel_rfl
@[go_sem] theorem Zjk:Ul Tryz.prog 234=false:=by kernel_rfl
@[go_sem] theorem ZsL:tn Tryz.prog 235=some 1:=by kernel_rfl
@[go_sem] theorem ZsM:ta Tryz.prog 235=some false:=by kernel_rfl
@[go_sem] theorem Zjl:IS Tryz.prog 235=some .u64:=by kernel_rfl
@[go_sem] theorem ZsN:tn Tryz.prog 237=some 5:=by kernel_rfl
@[go_sem] theorem ZsO:ta Tryz.prog 237=some true:=by kernel_rfl
@[go_sem] theorem ZsP:tz Tryz.prog 237=some [.int .u64 0,.int .u64 0,.int .u64 0,.int .u64 0,.int .u64 0]:=by kernel_rfl
@[go_sem] theorem Znp:Rb Tryz.prog 237=none:=by kernel_rfl
@[go_sem] theorem Zjm:YF Tryz.prog 237=some (5,235):=by kernel_rfl
@[go_sem] theorem Znq:JD Tryz.prog 237=none:=by kernel_rfl
@[go_sem] theorem Zjn:Ul Tryz.prog 237=false:=by kernel_rfl
@[go_sem] theorem ZsQ:tz Tryz.prog 239=some [.int .u8 0,.int .u8 0,.int .u8 0,.int .u8 0,.int .u8 0,.int .u8 0,.int .u8 0,.int .u8 0,.int .u8 0,.int .u8 0,.int .u8 0,.int .u8 0,.int .u8 0,.int .u8 0,.int .u8 0,.int .u8 0,.int .u8 0]:=by kernel_rfl
@[go_sem] theorem Zjo:YF Tryz.prog 239=some (17,5):=by kernel_rfl
@[go_sem] theorem Znr:JD Tryz.prog 239=none:=by kernel_rfl
@[go_sem] theorem Zjp:Ul Tryz.prog 239=false:=by kernel_rfl
@[go_sem] theorem go5:goes Tryz.prog 5=true:=by kernel_rfl
@[go_sem] theorem go6:goes Tryz.prog 6=true:=by kernel_rfl
@[go_sem] theorem go7:goes Tryz.prog 7=true:=by kernel_rfl
@[go_sem] theorem go8:goes Tryz.prog 8=true:=by kernel_rfl
@[go_sem] theorem Zxv:goes Tryz.prog 10=true:=by kernel_rfl
@[go_sem] theorem Zxw:goes Tryz.prog 12=true:=by kernel_rfl
@[go_sem] theorem Zxx:goes Tryz.prog 13=true:=by kernel_rfl
@[go_sem] theorem Zxy:goes Tryz.prog 14=true:=by kernel_rfl
@[go_sem] theorem Zxz:goes Tryz.prog 15=true:=by kernel_rfl
@[go_sem] theorem ZxA:goes Tryz.prog 16=true:=by kernel_rfl
@[go_sem] theorem ZxB:goes Tryz.prog 17=true:=by kernel_rfl
@[go_sem] theorem ZxC:goes Tryz.prog 18=true:=by kernel_rfl
@[go_sem] theorem ZxD:goes Tryz.prog 19=true:=by kernel_rfl
@[go_sem] theorem ZxE:goes Tryz.prog 20=true:=by kernel_rfl
@[go_sem] theorem ZxF:goes Tryz.prog 21=true:=by kernel_rfl
@[go_sem] theorem ZxG:goes Tryz.prog 22=true:=by kernel_rfl
@[go_sem] theorem ZxH:goes Tryz.prog 23=true:=by kernel_rfl
@[go_sem] theorem ZxI:goes Tryz.prog 24=true:=by kernel_rfl
@[go_sem] theorem ZxJ:goes Tryz.prog 25=true:=by kernel_rfl
@[go_sem] theorem ZxK:goes Tryz.prog 26=true:=by kernel_rfl
@[go_sem] theorem ZxL:goes Tryz.prog 27=true:=by kernel_rfl
@[go_sem] theorem ZxM:goes Tryz.prog 28=true:=by kernel_rfl
@[go_sem] theorem ZxN:goes Tryz.prog 29=true:=by kernel_rfl
@[go_sem] theorem ZxO:goes Tryz.prog 30=true:=by kernel_rfl
@[go_sem] theorem ZxP:goes Tryz.prog 31=true:=by kernel_rfl
@[go_sem] theorem ZxQ:goes Tryz.prog 32=true:=by kernel_rfl
@[go_sem] theorem ZxR:goes Tryz.prog 33=true:=by kernel_rfl
@[go_sem] theorem ZxS:goes Tryz.prog 34=true:=by kernel_rfl
@[go_sem] theorem ZxT:goes Tryz.prog 35=true:=by kernel_rfl
@[go_sem] theorem ZxU:goes Tryz.prog 36=true:=by kernel_rfl
@[go_sem] theorem ZxV:goes Tryz.prog 37=true:=by kernel_rfl
@[go_sem] theorem ZxW:goes Tryz.prog 38=true:=by kernel_rfl
@[go_sem] theorem ZxX:goes Tryz.prog 39=true:=by kernel_rfl
@[go_sem] theorem ZxY:goes Tryz.prog 40=true:=by kernel_rfl
@[go_sem] theorem ZxZ:goes Tryz.prog 41=true:=by kernel_rfl
@[go_sem] theorem Zx0:goes Tryz.prog 42=true:=by kernel_rfl
@[go_sem] theorem Zx1:goes Tryz.prog 43=true:=by kernel_rfl
@[go_sem] theorem Zx2:goes Tryz.prog 44=true:=by kernel_rfl
@[go_sem] theorem Zx3:goes Tryz.prog 45=true:=by kernel_rfl
@[go_sem] theorem Zx4:goes Tryz.prog 46=true:=by kernel_rfl
@[go_sem] theorem Zx5:goes Tryz.prog 47=true:=by kernel_rfl
@[go_sem] theorem Zx6:goes Tryz.prog 48=true:=by kernel_rfl
@[go_sem] theorem Zx7:goes Tryz.prog 49=true:=by kernel_rfl
@[go_sem] theorem Zx8:goes Tryz.prog 50=true:=by kernel_rfl
@[go_sem] theorem Zx9:goes Tryz.prog 51=true:=by kernel_rfl
@[go_sem] theorem Zya:goes Tryz.prog 52=true:=by kernel_rfl
@[go_sem] theorem Zyb:goes Tryz.prog 53=true:=by kernel_rfl
@[go_sem] theorem Zyc:goes Tryz.prog 54=true:=by kernel_rfl
@[go_sem] theorem Zyd:goes Tryz.prog 55=true:=by kernel_rfl
@[go_sem] theorem Zye:goes Tryz.prog 56=true:=by kernel_rfl
@[go_sem] theorem Zyf:goes Tryz.prog 57=true:=by kernel_rfl
@[go_sem] theorem Zyg:goes Tryz.prog 58=true:=by kernel_rfl
@[go_sem] theorem Zyh:goes Tryz.prog 59=true:=by kernel_rfl
@[go_sem] theorem Zyi:goes Tryz.prog 60=true:=by kernel_rfl
@[go_sem] theorem Zyj:goes Tryz.prog 61=true:=by kernel_rfl
@[go_sem] theorem Zyk:goes Tryz.prog 62=true:=by kernel_rfl
@[go_sem] theorem Zyl:goes Tryz.prog 63=true:=by kernel_rfl
@[go_sem] theorem Zym:goes Tryz.prog 64=true:=by kernel_rfl
@[go_sem] theorem Zyn:goes Tryz.prog 65=true:=by kernel_rfl
@[go_sem] theorem Zyo:goes Tryz.prog 66=true:=by kernel_rfl
@[go_sem] theorem Zyp:goes Tryz.prog 67=true:=by kernel_rfl
@[go_sem] theorem Zyq:goes Tryz.prog 68=true:=by kernel_rfl
@[go_sem] theorem Zyr:goes Tryz.prog 69=true:=by kernel_rfl
@[go_sem] theorem Zys:goes Tryz.prog 70=true:=by kernel_rfl
@[go_sem] theorem Zyt:goes Tryz.prog 71=true:=by kernel_rfl
@[go_sem] theorem Zyu:goes Tryz.prog 72=true:=by kernel_rfl
@[go_sem] theorem Zyv:goes Tryz.prog 73=true:=by kernel_rfl
@[go_sem] theorem Zyw:goes Tryz.prog 74=true:=by kernel_rfl
@[go_sem] theorem Zyx:goes Tryz.prog 75=true:=by kernel_rfl
@[go_sem] theorem Zyy:goes Tryz.prog 76=true:=by kernel_rfl
@[go_sem] theorem Zyz:goes Tryz.prog 77=true:=by kernel_rfl
@[go_sem] theorem ZyA:goes Tryz.prog 78=true:=by kernel_rfl
@[go_sem] theorem ZyB:goes Tryz.prog 79=true:=by kernel_rfl
@[go_sem] theorem ZyC:goes Tryz.prog 80=true:=by kernel_rfl
@[go_sem] theorem ZyD:goes Tryz.prog 81=true:=by kernel_rfl
@[go_sem] theorem ZyE:goes Tryz.prog 82=true:=by kernel_rfl
@[go_sem] theorem ZyF:goes Tryz.prog 83=true:=by kernel_rfl
@[go_sem] theorem ZyG:goes Tryz.prog 84=true:=by kernel_rfl
@[go_sem] theorem ZyH:goes Tryz.prog 85=true:=by kernel_rfl
@[go_sem] theorem ZyI:goes Tryz.prog 86=true:=by kernel_rfl
@[go_sem] theorem ZyJ:goes Tryz.prog 87=true:=by kernel_rfl
@[go_sem] theorem ZyK:goes Tryz.prog 88=true:=by kernel_rfl
@[go_sem] theorem ZyL:goes Tryz.prog 90=true:=by kernel_rfl
@[go_sem] theorem ZyM:goes Tryz.prog 92=true:=by kernel_rfl
@[go_sem] theorem ZyN:goes Tryz.prog 93=true:=by kernel_rfl
@[go_sem] theorem ZyO:goes Tryz.prog 95=true:=by kernel_rfl
@[go_sem] theorem ZyP:goes Tryz.prog 96=true:=by kernel_rfl
@[go_sem] theorem ZyQ:goes Tryz.prog 99=true:=by kernel_rfl
@[go_sem] theorem ZsR:goes Tryz.prog 100=true:=by kernel_rfl
@[go_sem] theorem ZsS:goes Tryz.prog 101=true:=by kernel_rfl
@[go_sem] theorem ZsT:goes Tryz.prog 102=true:=by kernel_rfl
@[go_sem] theorem ZsU:goes Tryz.prog 103=true:=by kernel_rfl
@[go_sem] theorem ZsV:goes Tryz.prog 104=true:=by kernel_rfl
@[go_sem] theorem ZsW:goes Tryz.prog 105=true:=by kernel_rfl
@[go_sem] theorem ZsX:goes Tryz.prog 106=true:=by kernel_rfl
@[go_sem] theorem ZsY:goes Tryz.prog 107=true:=by kernel_rfl
@[go_sem] theorem ZsZ:goes Tryz.prog 108=true:=by kernel_rfl
@[go_sem] theorem Zs0:goes Tryz.prog 109=true:=by kernel_rfl
@[go_sem] theorem Zs1:goes Tryz.prog 110=true:=by kernel_rfl
@[go_sem] theorem Zs2:goes Tryz.prog 111=true:=by kernel_rfl
@[go_sem] theorem Zs3:goes Tryz.prog 112=true:=by kernel_rfl
@[go_sem] theorem Zs4:goes Tryz.prog 113=true:=by kernel_rfl
@[go_sem] theorem Zs5:goes Tryz.prog 114=true:=by kernel_rfl
@[go_sem] theorem Zs6:goes Tryz.prog 115=true:=by kernel_rfl
@[go_sem] theorem Zs7:goes Tryz.prog 116=true:=by kernel_rfl
@[go_sem] theorem Zs8:goes Tryz.prog 118=true:=by kernel_rfl
@[go_sem] theorem Zs9:goes Tryz.prog 119=true:=by kernel_rfl
@[go_sem] theorem Zta:goes Tryz.prog 120=true:=by kernel_rfl
@[go_sem] theorem Ztb:goes Tryz.prog 121=true:=by kernel_rfl
@[go_sem] theorem Ztc:goes Tryz.prog 122=true:=by kernel_rfl
@[go_sem] theorem Ztd:goes Tryz.prog 123=true:=by kernel_rfl
@[go_sem] theorem Zte:goes Tryz.prog 124=true:=by kernel_rfl
@[go_sem] theorem Ztf:goes Tryz.prog 127=true:=by kernel_rfl
@[go_sem] theorem Ztg:goes Tryz.prog 128=true:=by kernel_rfl
@[go_sem] theorem Zth:goes Tryz.prog 129=true:=by kernel_rfl
@[go_sem] theorem Zti:goes Tryz.prog 130=true:=by kernel_rfl
@[go_sem] theorem Ztj:goes Tryz.prog 131=true:=by kernel_rfl
@[go_sem] theorem Ztk:goes Tryz.prog 132=true:=by kernel_rfl
@[go_sem] theorem Ztl:goes Tryz.prog 133=true:=by kernel_rfl
@[go_sem] theorem Ztm:goes Tryz.prog 135=true:=by kernel_rfl
@[go_sem] theorem Ztn:goes Tryz.prog 136=true:=by kernel_rfl
@[go_sem] theorem Zto:goes Tryz.prog 137=true:=by kernel_rfl
@[go_sem] theorem Ztp:goes Tryz.prog 139=true:=by kernel_rfl
@[go_sem] theorem Ztq:goes Tryz.prog 140=true:=by kernel_rfl
@[go_sem] theorem Ztr:goes Tryz.prog 141=true:=by kernel_rfl
@[go_sem] theorem Zts:goes Tryz.prog 142=true:=by kernel_rfl
@[go_sem] theorem Ztt:goes Tryz.prog 143=true:=by kernel_rfl
def H5:List Nat:=[104,97,114,110,101,115,115,32,54,53,102,54,48,52,101,52,48,99,55,102,51,100,101,52,52,56,56,97,57,56,54,57,99,55,55,53,99,99,55,99,49,100,99,54,99,54,51,50,53,51,102,49,99,101,57,55,54,54,56,48,100,102,55,48,49,49,97,54,53,55,55,56,32,99,117,116,32,97,116,32,99,111,110,99,108,97,118,101,47,99,111,110,99,108,97,118,101,116,111,112,46,84,111,112,67,104,97,105,110,115,32,99,111,110,99,108,97,118,101,47,99,111,110,99,108,97,118,101,116,111,112,46,84,111,112,82,101,97,100,115]
theorem AV:∃rest,Go.behindMainWord (Go.wordsSigns Tryz.prog.initOrder.toList) = "cut".toList :: rest:=
 gN (L:=H5.map Char.ofNat) (by kernel_rfl) (by kernel_rfl)
theorem Zfm:Tryz.prog.make=some .cut:=AV.elim fun _ h=>nw h
theorem Zbj:Tryz.prog.liftsFinal=false:=AV.elim fun _ h=>gL h
theorem Zbk:Tryz.prog.mayEnter=true:=AV.elim fun _ h=>gM h (by kernel_rfl) (by kernel_rfl) (by kernel_rfl)
theorem nX:Go.ownKnob Tryz.prog.godebug=none:=by kernel_rfl
theorem nY:Go.laidOutB Tryz.prog=true:=by kernel_rfl
theorem mixed:Tryz.prog.follows .mixedOrders=true:=by kernel_rfl
end Go.Proofs.YtboeoomhjbcecaaGreatDoor

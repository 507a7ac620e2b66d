/- The tables of this seat's program, in V2's words. Printed by gen_ty.py. -/
import Derived.Test.YtboeoomhjbcecaaGreatDoorRows
import Derived.Test.YtboeoomhjbcecaaGreatDoorV9
import Derived.Test.YtboeoomhjbcecaaGreatDoorW3
import Derived.KernelRfl
namespace Go.Proofs.YtboeoomhjbcecaaGreatDoor
open Go.V
set_option maxRecDepth 100000
@[go_sem] theorem tn1:tn Tryz.prog 1=some 1:=by kernel_rfl
@[go_sem] theorem tb1:tb Tryz.prog 1=some 8:=by kernel_rfl
@[go_sem] theorem ta1:ta Tryz.prog 1=some false:=by kernel_rfl
@[go_sem] theorem tz1:tz Tryz.prog 1=some [.nilFunc]:=by kernel_rfl
@[go_sem] theorem AS:tb Tryz.prog 2=some 8:=by kernel_rfl
@[go_sem] theorem tn3:tn Tryz.prog 3=some 1:=by kernel_rfl
@[go_sem] theorem tb3:tb Tryz.prog 3=some 8:=by kernel_rfl
@[go_sem] theorem ta3:ta Tryz.prog 3=some false:=by kernel_rfl
@[go_sem] theorem tz3:tz Tryz.prog 3=some [.int .i64 0]:=by kernel_rfl
@[go_sem] theorem ZrQ:IY Tryz.prog 3=some .i64:=by kernel_rfl
@[go_sem] theorem tn4:tn Tryz.prog 4=some 1:=by kernel_rfl
@[go_sem] theorem tb4:tb Tryz.prog 4=some 1:=by kernel_rfl
@[go_sem] theorem ta4:ta Tryz.prog 4=some false:=by kernel_rfl
@[go_sem] theorem Wg:tn Tryz.prog 5=some 1:=by kernel_rfl
@[go_sem] theorem WX:tb Tryz.prog 5=some 1:=by kernel_rfl
@[go_sem] theorem ta5:ta Tryz.prog 5=some false:=by kernel_rfl
@[go_sem] theorem WY:tz Tryz.prog 5=some [.int .u8 0]:=by kernel_rfl
@[go_sem] theorem ZrR:IY Tryz.prog 5=some .u8:=by kernel_rfl
@[go_sem] theorem ZlE:YF Tryz.prog 22=none:=by kernel_rfl
@[go_sem] theorem ZrS:JI Tryz.prog 22=some 61:=by kernel_rfl
@[go_sem] theorem ZlF:YF Tryz.prog 23=some (5,4):=by kernel_rfl
@[go_sem] theorem ZrT:JI Tryz.prog 23=none:=by kernel_rfl
@[go_sem] theorem ZwT:tn Tryz.prog 24=some 1:=by kernel_rfl
@[go_sem] theorem ZwU:ta Tryz.prog 24=some false:=by kernel_rfl
@[go_sem] theorem ZlG:YF Tryz.prog 24=none:=by kernel_rfl
@[go_sem] theorem Zfd:JI Tryz.prog 24=some 34:=by kernel_rfl
@[go_sem] theorem ZlH:YF Tryz.prog 25=some (5,3):=by kernel_rfl
@[go_sem] theorem ZrU:JI Tryz.prog 25=none:=by kernel_rfl
@[go_sem] theorem ZwV:tn Tryz.prog 26=some 1:=by kernel_rfl
@[go_sem] theorem ZwW:ta Tryz.prog 26=some false:=by kernel_rfl
@[go_sem] theorem Zfe:JI Tryz.prog 26=some 132:=by kernel_rfl
@[go_sem] theorem ZwX:tn Tryz.prog 28=some 13:=by kernel_rfl
@[go_sem] theorem ZwY:ta Tryz.prog 28=some true:=by kernel_rfl
@[go_sem] theorem ZwZ:tz Tryz.prog 28=some [.int .i64 0,.bool false,.bool false,.bool false,.bool false,.bool false,.slice none 0 0,.int .i64 0,.int .i64 0,.int .i64 0,.int .i64 0,.int .i64 0,.slice none 0 0]:=by kernel_rfl
@[go_sem] theorem ZlI:tf Tryz.prog 28 0=some 0:=by kernel_rfl
@[go_sem] theorem ZlJ:tf Tryz.prog 28 1=some 1:=by kernel_rfl
@[go_sem] theorem ZlK:tf Tryz.prog 28 2=some 6:=by kernel_rfl
@[go_sem] theorem ZlL:tf Tryz.prog 28 3=some 7:=by kernel_rfl
@[go_sem] theorem ZlM:tf Tryz.prog 28 4=some 12:=by kernel_rfl
@[go_sem] theorem ZrV:Rk Tryz.prog 28=some [(0,1),(1,5),(6,1),(7,5),(12,1)]:=by kernel_rfl
@[go_sem] theorem ZlN:YF Tryz.prog 28=none:=by kernel_rfl
@[go_sem] theorem ZlO:YF Tryz.prog 31=none:=by kernel_rfl
@[go_sem] theorem nM:JI Tryz.prog 31=some 58:=by kernel_rfl
@[go_sem] theorem ZlP:tn Tryz.prog 34=some 1:=by kernel_rfl
@[go_sem] theorem ZlQ:tb Tryz.prog 34=some 24:=by kernel_rfl
@[go_sem] theorem Zw0:ta Tryz.prog 34=some false:=by kernel_rfl
@[go_sem] theorem ZlR:tz Tryz.prog 34=some [.slice none 0 0]:=by kernel_rfl
@[go_sem] theorem ZlS:YF Tryz.prog 34=none:=by kernel_rfl
@[go_sem] theorem Dp:JI Tryz.prog 34=some 47:=by kernel_rfl
@[go_sem] theorem ZlT:Um Tryz.prog 34=false:=by kernel_rfl
@[go_sem] theorem ZlU:YF Tryz.prog 35=none:=by kernel_rfl
@[go_sem] theorem Zff:JI Tryz.prog 35=some 50:=by kernel_rfl
@[go_sem] theorem Zw1:tn Tryz.prog 36=some 8:=by kernel_rfl
@[go_sem] theorem Zw2:ta Tryz.prog 36=some true:=by kernel_rfl
@[go_sem] theorem Zw3:tz Tryz.prog 36=some [.int .i64 0,.int .i64 0,.int .i64 0,.int .i64 0,.int .i64 0,.int .i64 0,.int .i64 0,.int .i64 0]:=by kernel_rfl
@[go_sem] theorem ZlV:YF Tryz.prog 36=some (8,3):=by kernel_rfl
@[go_sem] theorem ZrW:JI Tryz.prog 36=none:=by kernel_rfl
@[go_sem] theorem ZlW:Um Tryz.prog 36=false:=by kernel_rfl
@[go_sem] theorem Zw4:tn Tryz.prog 37=some 1:=by kernel_rfl
@[go_sem] theorem Zw5:ta Tryz.prog 37=some false:=by kernel_rfl
@[go_sem] theorem Zw6:tn Tryz.prog 39=some 2:=by kernel_rfl
@[go_sem] theorem Zw7:ta Tryz.prog 39=some true:=by kernel_rfl
@[go_sem] theorem Zw8:tz Tryz.prog 39=some [.int .i64 0,.int .i64 0]:=by kernel_rfl
@[go_sem] theorem ZlX:tf Tryz.prog 39 0=some 0:=by kernel_rfl
@[go_sem] theorem ZlY:tf Tryz.prog 39 1=some 1:=by kernel_rfl
@[go_sem] theorem ZrX:Rk Tryz.prog 39=some [(0,1),(1,1)]:=by kernel_rfl
@[go_sem] theorem ZrY:zc Tryz.prog 39=false:=by kernel_rfl
@[go_sem] theorem Zit:flat Tryz.prog 6 39=some [some .i64,some .i64]:=by kernel_rfl
@[go_sem] theorem ZlZ:YF Tryz.prog 39=none:=by kernel_rfl
@[go_sem] theorem Zl0:YF Tryz.prog 40=some (8,39):=by kernel_rfl
@[go_sem] theorem ZrZ:JI Tryz.prog 40=none:=by kernel_rfl
@[go_sem] theorem Zw9:tn Tryz.prog 41=some 8:=by kernel_rfl
@[go_sem] theorem Zxa:ta Tryz.prog 41=some true:=by kernel_rfl
@[go_sem] theorem Zxb:tz Tryz.prog 41=some [.bool false,.bool false,.bool false,.bool false,.bool false,.bool false,.bool false,.bool false]:=by kernel_rfl
@[go_sem] theorem Zr0:Rk Tryz.prog 41=none:=by kernel_rfl
@[go_sem] theorem Zl1:YF Tryz.prog 41=some (8,4):=by kernel_rfl
@[go_sem] theorem Zr1:JI Tryz.prog 41=none:=by kernel_rfl
@[go_sem] theorem Zl2:Um Tryz.prog 41=false:=by kernel_rfl
@[go_sem] theorem Zxc:tn Tryz.prog 43=some 40:=by kernel_rfl
@[go_sem] theorem Zxd:ta Tryz.prog 43=some true:=by kernel_rfl
@[go_sem] theorem Zxe:tz Tryz.prog 43=some [.int .i64 0,.int .i64 0,.int .i64 0,.int .i64 0,.int .i64 0,.int .i64 0,.int .i64 0,.int .i64 0,.int .i64 0,.int .i64 0,.int .i64 0,.int .i64 0,.int .i64 0,.int .i64 0,.int .i64 0,.int .i64 0,.int .i64 0,.int .i64 0,.int .i64 0,.int .i64 0,.int .i64 0,.int .i64 0,.int .i64 0,.int .i64 0,.int .i64 0,.int .i64 0,.int .i64 0,.int .i64 0,.int .i64 0,.int .i64 0,.int .i64 0,.int .i64 0,.bool false,.bool false,.bool false,.bool false,.bool false,.bool false,.bool false,.bool false]:=by kernel_rfl
@[go_sem] theorem Zl3:tf Tryz.prog 43 0=some 0:=by kernel_rfl
@[go_sem] theorem Zl4:tf Tryz.prog 43 1=some 8:=by kernel_rfl
@[go_sem] theorem Zl5:tf Tryz.prog 43 2=some 16:=by kernel_rfl
@[go_sem] theorem Zl6:tf Tryz.prog 43 3=some 32:=by kernel_rfl
@[go_sem] theorem Zr2:Rk Tryz.prog 43=some [(0,8),(8,8),(16,16),(32,8)]:=by kernel_rfl
@[go_sem] theorem Zl7:YF Tryz.prog 43=none:=by kernel_rfl
@[go_sem] theorem Zbd:tn Tryz.prog 47=some 5:=by kernel_rfl
@[go_sem] theorem Zfg:tb Tryz.prog 47=some 40:=by kernel_rfl
@[go_sem] theorem Zxf:ta Tryz.prog 47=some true:=by kernel_rfl
@[go_sem] theorem nN:tz Tryz.prog 47=some [.int .i64 0,.int .i64 0,.int .i64 0,.int .i64 0,.int .i64 0]:=by kernel_rfl
@[go_sem] theorem Zl8:tf Tryz.prog 47 0=some 0:=by kernel_rfl
@[go_sem] theorem Zl9:tf Tryz.prog 47 1=some 1:=by kernel_rfl
@[go_sem] theorem Zma:tf Tryz.prog 47 2=some 2:=by kernel_rfl
@[go_sem] theorem Zmb:tf Tryz.prog 47 3=some 3:=by kernel_rfl
@[go_sem] theorem Zmc:tf Tryz.prog 47 4=some 4:=by kernel_rfl
@[go_sem] theorem Zr3:Rk Tryz.prog 47=some [(0,1),(1,1),(2,1),(3,1),(4,1)]:=by kernel_rfl
@[go_sem] theorem Zr4:zc Tryz.prog 47=false:=by kernel_rfl
@[go_sem] theorem Ziu:flat Tryz.prog 6 47=some [some .i64,some .i64,some .i64,some .i64,some .i64]:=by kernel_rfl
@[go_sem] theorem Zmd:YF Tryz.prog 47=none:=by kernel_rfl
@[go_sem] theorem Zxg:tn Tryz.prog 48=some 1:=by kernel_rfl
@[go_sem] theorem Zxh:ta Tryz.prog 48=some false:=by kernel_rfl
@[go_sem] theorem Zme:YF Tryz.prog 48=none:=by kernel_rfl
@[go_sem] theorem YD:JI Tryz.prog 48=some 5:=by kernel_rfl
@[go_sem] theorem Zmf:Um Tryz.prog 48=false:=by kernel_rfl
@[go_sem] theorem Zmg:tn Tryz.prog 50=some 8:=by kernel_rfl
@[go_sem] theorem Zmh:tb Tryz.prog 50=some 80:=by kernel_rfl
@[go_sem] theorem Zxi:ta Tryz.prog 50=some true:=by kernel_rfl
@[go_sem] theorem Zmi:tz Tryz.prog 50=some [.int .i64 0,.int .i64 0,.int .i64 0,.int .i64 0,.int .i64 0,.int .i64 0,.int .i64 0,.slice none 0 0]:=by kernel_rfl
@[go_sem] theorem Zmj:tf Tryz.prog 50 0=some 0:=by kernel_rfl
@[go_sem] theorem Zmk:tf Tryz.prog 50 1=some 5:=by kernel_rfl
@[go_sem] theorem Zr5:Rk Tryz.prog 50=some [(0,5),(5,2),(7,1)]:=by kernel_rfl
@[go_sem] theorem Zml:YF Tryz.prog 50=none:=by kernel_rfl
@[go_sem] theorem Zbe:tn Tryz.prog 58=some 5:=by kernel_rfl
@[go_sem] theorem Zbf:tb Tryz.prog 58=some 56:=by kernel_rfl
@[go_sem] theorem Zxj:ta Tryz.prog 58=some true:=by kernel_rfl
@[go_sem] theorem Zbg:tz Tryz.prog 58=some [.int .i64 0,.int .i64 0,.int .i64 0,.int .i64 0,.slice none 0 0]:=by kernel_rfl
@[go_sem] theorem Zmm:tf Tryz.prog 58 0=some 0:=by kernel_rfl
@[go_sem] theorem Zmn:tf Tryz.prog 58 1=some 1:=by kernel_rfl
@[go_sem] theorem Zmo:tf Tryz.prog 58 2=some 2:=by kernel_rfl
@[go_sem] theorem Zmp:tf Tryz.prog 58 3=some 3:=by kernel_rfl
@[go_sem] theorem Zmq:tf Tryz.prog 58 4=some 4:=by kernel_rfl
@[go_sem] theorem Zr6:Rk Tryz.prog 58=some [(0,1),(1,1),(2,1),(3,1),(4,1)]:=by kernel_rfl
@[go_sem] theorem Zmr:YF Tryz.prog 58=none:=by kernel_rfl
@[go_sem] theorem Zxk:tn Tryz.prog 61=some 5:=by kernel_rfl
@[go_sem] theorem Zxl:ta Tryz.prog 61=some true:=by kernel_rfl
@[go_sem] theorem Zms:tf Tryz.prog 61 0=some 0:=by kernel_rfl
@[go_sem] theorem Zmt:tf Tryz.prog 61 1=some 1:=by kernel_rfl
@[go_sem] theorem Zmu:tf Tryz.prog 61 2=some 2:=by kernel_rfl
@[go_sem] theorem Zmv:tf Tryz.prog 61 3=some 3:=by kernel_rfl
@[go_sem] theorem Zmw:tf Tryz.prog 61 4=some 4:=by kernel_rfl
@[go_sem] theorem Zxm:tn Tryz.prog 67=some 1:=by kernel_rfl
@[go_sem] theorem Zxn:ta Tryz.prog 67=some false:=by kernel_rfl
@[go_sem] theorem Zxo:tn Tryz.prog 70=some 1:=by kernel_rfl
@[go_sem] theorem Zxp:ta Tryz.prog 70=some false:=by kernel_rfl
@[go_sem] theorem Zmx:YF Tryz.prog 70=none:=by kernel_rfl
@[go_sem] theorem Zfh:JI Tryz.prog 70=some 74:=by kernel_rfl
@[go_sem] theorem Zxq:tn Tryz.prog 71=some 1:=by kernel_rfl
@[go_sem] theorem Zxr:ta Tryz.prog 71=some false:=by kernel_rfl
@[go_sem] theorem Zmy:YF Tryz.prog 71=none:=by kernel_rfl
@[go_sem] theorem dB:JI Tryz.prog 71=some 111:=by kernel_rfl
@[go_sem] theorem Zmz:Um Tryz.prog 71=false:=by kernel_rfl
@[go_sem] theorem Zxs:tz Tryz.prog 73=some [.slice none 0 0,.slice none 0 0,.int .i64 0,.bool false,.bool false,.bool false,.bool false,.bool false,.slice none 0 0,.int .i64 0,.int .i64 0,.int .i64 0,.int .i64 0,.int .i64 0,.slice none 0 0]:=by kernel_rfl
@[go_sem] theorem ZmA:tf Tryz.prog 73 0=some 0:=by kernel_rfl
@[go_sem] theorem ZmB:tf Tryz.prog 73 1=some 1:=by kernel_rfl
@[go_sem] theorem ZmC:tf Tryz.prog 73 2=some 2:=by kernel_rfl
@[go_sem] theorem Zr7:Rk Tryz.prog 73=some [(0,1),(1,1),(2,13)]:=by kernel_rfl
@[go_sem] theorem ZmD:YF Tryz.prog 73=none:=by kernel_rfl
@[go_sem] theorem ZmE:tn Tryz.prog 74=some 1:=by kernel_rfl
@[go_sem] theorem ZmF:tb Tryz.prog 74=some 8:=by kernel_rfl
@[go_sem] theorem Zxt:ta Tryz.prog 74=some false:=by kernel_rfl
@[go_sem] theorem ZmG:tz Tryz.prog 74=some [.pointer none]:=by kernel_rfl
@[go_sem] theorem Zxu:tn Tryz.prog 76=some 2:=by kernel_rfl
@[go_sem] theorem Zxv:ta Tryz.prog 76=some true:=by kernel_rfl
@[go_sem] theorem Zxw:tz Tryz.prog 76=some [.slice none 0 0,.int .i64 0]:=by kernel_rfl
@[go_sem] theorem ZmH:tf Tryz.prog 76 0=some 0:=by kernel_rfl
@[go_sem] theorem ZmI:tf Tryz.prog 76 1=some 1:=by kernel_rfl
@[go_sem] theorem Zr8:Rk Tryz.prog 76=some [(0,1),(1,1)]:=by kernel_rfl
@[go_sem] theorem ZmJ:YF Tryz.prog 76=none:=by kernel_rfl
@[go_sem] theorem Zxx:tn Tryz.prog 78=some 2:=by kernel_rfl
@[go_sem] theorem Zxy:ta Tryz.prog 78=some true:=by kernel_rfl
@[go_sem] theorem Zxz:tz Tryz.prog 78=some [.int .i64 0,.int .i64 0]:=by kernel_rfl
@[go_sem] theorem ZmK:tf Tryz.prog 78 0=some 0:=by kernel_rfl
@[go_sem] theorem ZmL:tf Tryz.prog 78 1=some 1:=by kernel_rfl
@[go_sem] theorem Zr9:Rk Tryz.prog 78=some [(0,1),(1,1)]:=by kernel_rfl
@[go_sem] theorem Zsa:zc Tryz.prog 78=false:=by kernel_rfl
@[go_sem] theorem Ziv:flat Tryz.prog 6 78=some [some .i64,some .i64]:=by kernel_rfl
@[go_sem] theorem ZmM:YF Tryz.prog 78=none:=by kernel_rfl
@[go_sem] theorem ZmN:tn Tryz.prog 79=some 1:=by kernel_rfl
@[go_sem] theorem ZmO:tb Tryz.prog 79=some 24:=by kernel_rfl
@[go_sem] theorem ZxA:ta Tryz.prog 79=some false:=by kernel_rfl
@[go_sem] theorem ZmP:tz Tryz.prog 79=some [.slice none 0 0]:=by kernel_rfl
@[go_sem] theorem ZmQ:YF Tryz.prog 79=none:=by kernel_rfl
@[go_sem] theorem Mr:JI Tryz.prog 79=some 109:=by kernel_rfl
@[go_sem] theorem ZmR:Um Tryz.prog 79=false:=by kernel_rfl
@[go_sem] theorem ZxB:tn Tryz.prog 81=some 3:=by kernel_rfl
@[go_sem] theorem ZxC:ta Tryz.prog 81=some true:=by kernel_rfl
@[go_sem] theorem ZxD:tz Tryz.prog 81=some [.int .i64 0,.int .i64 0,.slice none 0 0]:=by kernel_rfl
@[go_sem] theorem ZmS:tf Tryz.prog 81 0=some 0:=by kernel_rfl
@[go_sem] theorem ZmT:tf Tryz.prog 81 1=some 2:=by kernel_rfl
@[go_sem] theorem Zsb:Rk Tryz.prog 81=some [(0,2),(2,1)]:=by kernel_rfl
@[go_sem] theorem ZmU:YF Tryz.prog 81=none:=by kernel_rfl
@[go_sem] theorem ZxE:tn Tryz.prog 82=some 1:=by kernel_rfl
@[go_sem] theorem ZxF:ta Tryz.prog 82=some false:=by kernel_rfl
@[go_sem] theorem ZxG:tn Tryz.prog 83=some 1:=by kernel_rfl
@[go_sem] theorem ZxH:ta Tryz.prog 83=some false:=by kernel_rfl
@[go_sem] theorem ZxI:tz Tryz.prog 85=some [.int .i64 0,.bool false,.slice none 0 0,.int .i64 0,.int .i64 0,.int .i64 0,.slice none 0 0,.int .i64 0,.int .i64 0,.pointer none,.map none,.slice none 0 0,.int .i64 0,.int .i64 0,.int .i64 0,.int .i64 0,.int .i64 0,.int .i64 0,.int .i64 0,.int .i64 0,.int .i64 0,.int .i64 0,.int .i64 0,.int .i64 0,.int .i64 0,.int .i64 0,.int .i64 0,.int .i64 0,.int .i64 0,.int .i64 0,.int .i64 0,.int .i64 0,.int .i64 0,.int .i64 0,.int .i64 0,.int .i64 0,.int .i64 0,.int .i64 0,.int .i64 0,.int .i64 0,.int .i64 0,.int .i64 0,.int .i64 0,.int .i64 0,.bool false,.bool false,.bool false,.bool false,.bool false,.bool false,.bool false,.bool false,.slice none 0 0,.slice none 0 0,.slice none 0 0,.nilFunc,.int .i64 0]:=by kernel_rfl
@[go_sem] theorem ZmV:tf Tryz.prog 85 0=some 0:=by kernel_rfl
@[go_sem] theorem ZmW:tf Tryz.prog 85 1=some 1:=by kernel_rfl
@[go_sem] theorem ZmX:tf Tryz.prog 85 2=some 2:=by kernel_rfl
@[go_sem] theorem ZmY:tf Tryz.prog 85 3=some 4:=by kernel_rfl
@[go_sem] theorem ZmZ:tf Tryz.prog 85 4=some 7:=by kernel_rfl
@[go_sem] theorem Zm0:tf Tryz.prog 85 5=some 9:=by kernel_rfl
@[go_sem] theorem Zm1:tf Tryz.prog 85 6=some 10:=by kernel_rfl
@[go_sem] theorem Zm2:tf Tryz.prog 85 7=some 11:=by kernel_rfl
@[go_sem] theorem Zm3:tf Tryz.prog 85 8=some 12:=by kernel_rfl
@[go_sem] theorem Zm4:tf Tryz.prog 85 9=some 52:=by kernel_rfl
@[go_sem] theorem Ziw:tf Tryz.prog 85 10=some 53:=by kernel_rfl
@[go_sem] theorem Zix:tf Tryz.prog 85 11=some 54:=by kernel_rfl
@[go_sem] theorem Ziy:tf Tryz.prog 85 12=some 55:=by kernel_rfl
@[go_sem] theorem Ziz:tf Tryz.prog 85 13=some 56:=by kernel_rfl
@[go_sem] theorem Zsc:Rk Tryz.prog 85=some [(0,1),(1,1),(2,2),(4,3),(7,2),(9,1),(10,1),(11,1),(12,40),(52,1),(53,1),(54,1),(55,1),(56,1)]:=by kernel_rfl
@[go_sem] theorem Zm5:YF Tryz.prog 85=none:=by kernel_rfl
@[go_sem] theorem ZxJ:tn Tryz.prog 90=some 1:=by kernel_rfl
@[go_sem] theorem ZxK:ta Tryz.prog 90=some false:=by kernel_rfl
@[go_sem] theorem ZxL:tz Tryz.prog 95=some [.int .i64 0,.int .i64 0]:=by kernel_rfl
@[go_sem] theorem Zsd:Rk Tryz.prog 95=none:=by kernel_rfl
@[go_sem] theorem Zm6:YF Tryz.prog 95=some (2,3):=by kernel_rfl
@[go_sem] theorem Zm7:Um Tryz.prog 95=false:=by kernel_rfl
@[go_sem] theorem Zm8:IY Tryz.prog 96=some .u64:=by kernel_rfl
@[go_sem] theorem Zm9:YF Tryz.prog 98=none:=by kernel_rfl
@[go_sem] theorem Zse:JI Tryz.prog 98=some 103:=by kernel_rfl
@[go_sem] theorem Zsf:tn Tryz.prog 103=some 2:=by kernel_rfl
@[go_sem] theorem Zsg:ta Tryz.prog 103=some true:=by kernel_rfl
@[go_sem] theorem Zsh:tz Tryz.prog 103=some [.pointer none,.int .i64 0]:=by kernel_rfl
@[go_sem] theorem ZiA:tf Tryz.prog 103 0=some 0:=by kernel_rfl
@[go_sem] theorem ZiB:tf Tryz.prog 103 1=some 1:=by kernel_rfl
@[go_sem] theorem Zna:Rk Tryz.prog 103=some [(0,1),(1,1)]:=by kernel_rfl
@[go_sem] theorem ZiC:YF Tryz.prog 103=none:=by kernel_rfl
@[go_sem] theorem On:tn Tryz.prog 109=some 8:=by kernel_rfl
@[go_sem] theorem dC:tb Tryz.prog 109=some 64:=by kernel_rfl
@[go_sem] theorem Zsi:ta Tryz.prog 109=some true:=by kernel_rfl
@[go_sem] theorem dD:tz Tryz.prog 109=some [.int .i64 0,.int .i64 0,.int .i64 0,.int .i64 0,.int .i64 0,.int .i64 0,.int .i64 0,.int .i64 0]:=by kernel_rfl
@[go_sem] theorem ZiD:tf Tryz.prog 109 0=some 0:=by kernel_rfl
@[go_sem] theorem ZiE:tf Tryz.prog 109 1=some 1:=by kernel_rfl
@[go_sem] theorem ZiF:tf Tryz.prog 109 2=some 3:=by kernel_rfl
@[go_sem] theorem Znb:Rk Tryz.prog 109=some [(0,1),(1,2),(3,5)]:=by kernel_rfl
@[go_sem] theorem Znc:zc Tryz.prog 109=false:=by kernel_rfl
@[go_sem] theorem Zfi:flat Tryz.prog 6 109=some [some .i64,some .i64,some .i64,some .i64,some .i64,some .i64,some .i64,some .i64]:=by kernel_rfl
@[go_sem] theorem ZiG:YF Tryz.prog 109=none:=by kernel_rfl
@[go_sem] theorem nO:tn Tryz.prog 111=some 14:=by kernel_rfl
@[go_sem] theorem zq:tb Tryz.prog 111=some 128:=by kernel_rfl
@[go_sem] theorem Zsj:ta Tryz.prog 111=some true:=by kernel_rfl
@[go_sem] theorem dE:tz Tryz.prog 111=some [.int .i64 0,.int .i64 0,.int .i64 0,.int .i64 0,.int .i64 0,.int .i64 0,.int .i64 0,.int .i64 0,.int .i64 0,.int .i64 0,.int .i64 0,.int .i64 0,.int .i64 0,.slice none 0 0]:=by kernel_rfl
@[go_sem] theorem ZiH:tf Tryz.prog 111 0=some 0:=by kernel_rfl
@[go_sem] theorem ZiI:tf Tryz.prog 111 1=some 1:=by kernel_rfl
@[go_sem] theorem ZiJ:tf Tryz.prog 111 2=some 2:=by kernel_rfl
@[go_sem] theorem ZiK:tf Tryz.prog 111 3=some 3:=by kernel_rfl
@[go_sem] theorem ZiL:tf Tryz.prog 111 4=some 5:=by kernel_rfl
@[go_sem] theorem ZiM:tf Tryz.prog 111 5=some 13:=by kernel_rfl
@[go_sem] theorem Znd:Rk Tryz.prog 111=some [(0,1),(1,1),(2,1),(3,2),(5,8),(13,1)]:=by kernel_rfl
@[go_sem] theorem ZiN:YF Tryz.prog 111=none:=by kernel_rfl
@[go_sem] theorem Zsk:tz Tryz.prog 119=some [.int .i64 0,.int .i64 0,.int .i64 0,.int .i64 0,.int .i64 0]:=by kernel_rfl
@[go_sem] theorem ZiO:tf Tryz.prog 119 0=some 0:=by kernel_rfl
@[go_sem] theorem ZiP:tf Tryz.prog 119 1=some 1:=by kernel_rfl
@[go_sem] theorem ZiQ:tf Tryz.prog 119 2=some 2:=by kernel_rfl
@[go_sem] theorem ZiR:tf Tryz.prog 119 3=some 3:=by kernel_rfl
@[go_sem] theorem ZiS:tf Tryz.prog 119 4=some 4:=by kernel_rfl
@[go_sem] theorem Zne:Rk Tryz.prog 119=some [(0,1),(1,1),(2,1),(3,1),(4,1)]:=by kernel_rfl
@[go_sem] theorem ZiT:YF Tryz.prog 119=none:=by kernel_rfl
@[go_sem] theorem Zsl:tn Tryz.prog 121=some 3:=by kernel_rfl
@[go_sem] theorem Zsm:ta Tryz.prog 121=some true:=by kernel_rfl
@[go_sem] theorem Zsn:tz Tryz.prog 121=some [.int .i64 0,.int .i64 0,.int .i64 0]:=by kernel_rfl
@[go_sem] theorem ZiU:tf Tryz.prog 121 0=some 0:=by kernel_rfl
@[go_sem] theorem ZiV:tf Tryz.prog 121 1=some 1:=by kernel_rfl
@[go_sem] theorem ZiW:tf Tryz.prog 121 2=some 2:=by kernel_rfl
@[go_sem] theorem Znf:Rk Tryz.prog 121=some [(0,1),(1,1),(2,1)]:=by kernel_rfl
@[go_sem] theorem ZiX:YF Tryz.prog 121=none:=by kernel_rfl
@[go_sem] theorem Zso:tn Tryz.prog 124=some 5:=by kernel_rfl
@[go_sem] theorem Zsp:ta Tryz.prog 124=some true:=by kernel_rfl
@[go_sem] theorem Zsq:tz Tryz.prog 124=some [.pointer none,.pointer none,.pointer none,.pointer none,.pointer none]:=by kernel_rfl
@[go_sem] theorem Zng:Rk Tryz.prog 124=none:=by kernel_rfl
@[go_sem] theorem ZiY:YF Tryz.prog 124=some (5,90):=by kernel_rfl
@[go_sem] theorem ZiZ:Um Tryz.prog 124=false:=by kernel_rfl
@[go_sem] theorem Zfj:tn Tryz.prog 132=some 5:=by kernel_rfl
@[go_sem] theorem Zfk:tb Tryz.prog 132=some 40:=by kernel_rfl
@[go_sem] theorem Zfl:tz Tryz.prog 132=some [.int .i64 0,.int .i64 0,.int .i64 0,.int .i64 0,.int .i64 0]:=by kernel_rfl
@[go_sem] theorem Znh:Rk Tryz.prog 132=some [(0,1),(1,1),(2,1),(3,2)]:=by kernel_rfl
@[go_sem] theorem Zi0:YF Tryz.prog 132=none:=by kernel_rfl
@[go_sem] theorem Zsr:tn Tryz.prog 135=some 1:=by kernel_rfl
@[go_sem] theorem Zss:ta Tryz.prog 135=some false:=by kernel_rfl
@[go_sem] theorem Zst:tn Tryz.prog 136=some 1:=by kernel_rfl
@[go_sem] theorem Zsu:ta Tryz.prog 136=some false:=by kernel_rfl
@[go_sem] theorem Zsv:tz Tryz.prog 138=some [.int .i64 0,.int .i64 0,.map none,.bool false,.map none,.map none]:=by kernel_rfl
@[go_sem] theorem Zi1:tf Tryz.prog 138 0=some 0:=by kernel_rfl
@[go_sem] theorem Zi2:tf Tryz.prog 138 1=some 2:=by kernel_rfl
@[go_sem] theorem Zi3:tf Tryz.prog 138 2=some 3:=by kernel_rfl
@[go_sem] theorem Zi4:tf Tryz.prog 138 3=some 4:=by kernel_rfl
@[go_sem] theorem Zi5:tf Tryz.prog 138 4=some 5:=by kernel_rfl
@[go_sem] theorem Zni:Rk Tryz.prog 138=some [(0,2),(2,1),(3,1),(4,1),(5,1)]:=by kernel_rfl
@[go_sem] theorem Zi6:YF Tryz.prog 138=none:=by kernel_rfl
@[go_sem] theorem Zsw:tn Tryz.prog 150=some 11:=by kernel_rfl
@[go_sem] theorem Zsx:ta Tryz.prog 150=some true:=by kernel_rfl
@[go_sem] theorem Zsy:tz Tryz.prog 150=some [.slice none 0 0,.int .i64 0,.int .i64 0,.bool false,.bool false,.bool false,.bool false,.bool false,.bool false,.bool false,.bool false]:=by kernel_rfl
@[go_sem] theorem Zi7:tf Tryz.prog 150 0=some 0:=by kernel_rfl
@[go_sem] theorem Zi8:tf Tryz.prog 150 1=some 1:=by kernel_rfl
@[go_sem] theorem Zi9:tf Tryz.prog 150 2=some 2:=by kernel_rfl
@[go_sem] theorem Zja:tf Tryz.prog 150 3=some 3:=by kernel_rfl
@[go_sem] theorem Znj:Rk Tryz.prog 150=some [(0,1),(1,1),(2,1),(3,8)]:=by kernel_rfl
@[go_sem] theorem Zjb:YF Tryz.prog 150=none:=by kernel_rfl
@[go_sem] theorem Zsz:tn Tryz.prog 153=some 1:=by kernel_rfl
@[go_sem] theorem ZsA:ta Tryz.prog 153=some false:=by kernel_rfl
@[go_sem] theorem Zjc:IY Tryz.prog 153=some .u32:=by kernel_rfl
@[go_sem] theorem ZsB:tn Tryz.prog 155=some 8:=by kernel_rfl
@[go_sem] theorem ZsC:ta Tryz.prog 155=some true:=by kernel_rfl
@[go_sem] theorem ZsD:tz Tryz.prog 155=some [.int .u32 0,.int .u32 0,.int .u32 0,.int .u32 0,.int .u32 0,.int .u32 0,.int .u32 0,.int .u32 0]:=by kernel_rfl
@[go_sem] theorem Znk:Rk Tryz.prog 155=none:=by kernel_rfl
@[go_sem] theorem Zjd:YF Tryz.prog 155=some (8,153):=by kernel_rfl
@[go_sem] theorem Znl:JI Tryz.prog 155=none:=by kernel_rfl
@[go_sem] theorem Zje:Um Tryz.prog 155=false:=by kernel_rfl
@[go_sem] theorem ZsE:tz Tryz.prog 179=some [.int .u32 0,.int .u32 0,.int .u32 0,.int .u32 0,.int .u32 0,.int .u32 0,.int .u32 0,.int .u32 0,.int .u32 0,.int .u32 0,.int .u32 0,.int .u32 0,.int .u32 0,.int .u32 0,.int .u32 0,.int .u32 0,.int .u32 0,.int .u32 0,.int .u32 0,.int .u32 0,.int .u32 0,.int .u32 0,.int .u32 0,.int .u32 0,.int .u32 0,.int .u32 0,.int .u32 0,.int .u32 0,.int .u32 0,.int .u32 0,.int .u32 0,.int .u32 0,.int .u32 0,.int .u32 0,.int .u32 0,.int .u32 0,.int .u32 0,.int .u32 0,.int .u32 0,.int .u32 0,.int .u32 0,.int .u32 0,.int .u32 0,.int .u32 0,.int .u32 0,.int .u32 0,.int .u32 0,.int .u32 0,.int .u32 0,.int .u32 0,.int .u32 0,.int .u32 0,.int .u32 0,.int .u32 0,.int .u32 0,.int .u32 0,.int .u32 0,.int .u32 0,.int .u32 0,.int .u32 0,.int .u32 0,.int .u32 0,.int .u32 0,.int .u32 0]:=by kernel_rfl
@[go_sem] theorem Zjf:YF Tryz.prog 179=some (64,153):=by kernel_rfl
@[go_sem] theorem Znm:JI Tryz.prog 179=none:=by kernel_rfl
@[go_sem] theorem ZsF:tz Tryz.prog 183=some [.int .i64 0,.int .i64 0,.int .i64 0,.int .i64 0]:=by kernel_rfl
@[go_sem] theorem Znn:Rk Tryz.prog 183=none:=by kernel_rfl
@[go_sem] theorem Zjg:YF Tryz.prog 183=some (4,3):=by kernel_rfl
@[go_sem] theorem Zno:JI Tryz.prog 183=none:=by kernel_rfl
@[go_sem] theorem Zjh:Um Tryz.prog 183=false:=by kernel_rfl
@[go_sem] theorem ZsG:tn Tryz.prog 186=some 0:=by kernel_rfl
@[go_sem] theorem ZsH:tz Tryz.prog 186=some []:=by kernel_rfl
@[go_sem] theorem Znp:Rk Tryz.prog 186=some []:=by kernel_rfl
@[go_sem] theorem Zji:YF Tryz.prog 186=none:=by kernel_rfl
@[go_sem] theorem Zjj:YF Tryz.prog 216=none:=by kernel_rfl
@[go_sem] theorem Zbh:JI Tryz.prog 216=some 79:=by kernel_rfl
@[go_sem] theorem ZsI:tn Tryz.prog 224=some 64:=by kernel_rfl
@[go_sem] theorem ZsJ:ta Tryz.prog 224=some true:=by kernel_rfl
@[go_sem] theorem ZsK:tz Tryz.prog 224=some [.int .u8 0,.int .u8 0,.int .u8 0,.int .u8 0,.int .u8 0,.int .u8 0,.int .u8 0,.int .u8 0,.int .u8 0,.int .u8 0,.int .u8 0,.int .u8 0,.int .u8 0,.int .u8 0,.int .u8 0,.int .u8 0,.int .u8 0,.int .u8 0,.int .u8 0,.int .u8 0,.int .u8 0,.int .u8 0,.int .u8 0,.int .u8 0,.int .u8 0,.int .u8 0,.int .u8 0,.int .u8 0,.int .u8 0,.int .u8 0,.int .u8 0,.int .u8 0,.int .u8 0,.int .u8 0,.int .u8 0,.int .u8 0,.int .u8 0,.int .u8 0,.int .u8 0,.int .u8 0,.int .u8 0,.int .u8 0,.int .u8 0,.int .u8 0,.int .u8 0,.int .u8 0,.int .u8 0,.int .u8 0,.int .u8 0,.int .u8 0,.int .u8 0,.int .u8 0,.int .u8 0,.int .u8 0,.int .u8 0,.int .u8 0,.int .u8 0,.int .u8 0,.int .u8 0,.int .u8 0,.int .u8 0,.int .u8 0,.int .u8 0,.int .u8 0]:=by kernel_rfl
@[go_sem] theorem Zjk:YF Tryz.prog 224=some (64,5):=by kernel_rfl
@[go_sem] theorem Znq:JI Tryz.prog 224=none:=by kernel_rfl
@[go_sem] theorem Zjl:Um Tryz.prog 224=false:=by kernel_rfl
@[go_sem] theorem Zjm:YF Tryz.prog 227=none:=by kernel_rfl
@[go_sem] theorem Znr:JI Tryz.prog 227=some 3:=by kernel_rfl
@[go_sem] theorem ZsL:tn Tryz.prog 229=some 16:=by kernel_rfl
@[go_sem] theorem ZsM:ta Tryz.prog 229=some true:=by kernel_rfl
@[go_sem] theorem ZsN:tz Tryz.prog 229=some [.int .u32 0,.int .u32 0,.int .u32 0,.int .u32 0,.int .u32 0,.int .u32 0,.int .u32 0,.int .u32 0,.int .u32 0,.int .u32 0,.int .u32 0,.int .u32 0,.int .u32 0,.int .u32 0,.int .u32 0,.int .u32 0]:=by kernel_rfl
@[go_sem] theorem Zns:Rk Tryz.prog 229=none:=by kernel_rfl
@[go_sem] theorem Zjn:YF Tryz.prog 229=some (16,153):=by kernel_rfl
@[go_sem] theorem Znt:JI Tryz.prog 229=none:=by kernel_rfl
@[go_sem] theorem ZsO:tz Tryz.prog 234=some [.int .i64 0,.int .i64 0,.int .i64 0]:=by kernel_rfl
@[go_sem] theorem Znu:Rk Tryz.prog 234=none:=by kernel_rfl
@[go_sem] theorem Zjo:YF Tryz.prog 234=some (3,3):=by kernel_rfl
@[go_sem] theorem Zjp:Um Tryz.prog 234=false:=by kernel_rfl
@[go_sem] theorem ZsP:tn Tryz.prog 235=some 1:=by kernel_rfl
@[go_sem] theorem ZsQ:ta Tryz.prog 235=some false:=by kernel_rfl
@[go_sem] theorem Zjq:IY Tryz.prog 235=some .u64:=by kernel_rfl
@[go_sem] theorem ZsR:tn Tryz.prog 237=some 5:=by kernel_rfl
@[go_sem] theorem ZsS:ta Tryz.prog 237=some true:=by kernel_rfl
@[go_sem] theorem ZsT:tz Tryz.prog 237=some [.int .u64 0,.int .u64 0,.int .u64 0,.int .u64 0,.int .u64 0]:=by kernel_rfl
@[go_sem] theorem Znv:Rk Tryz.prog 237=none:=by kernel_rfl
@[go_sem] theorem Zjr:YF Tryz.prog 237=some (5,235):=by kernel_rfl
@[go_sem] theorem Znw:JI Tryz.prog 237=none:=by kernel_rfl
@[go_sem] theorem Zjs:Um Tryz.prog 237=false:=by kernel_rfl
@[go_sem] theorem ZsU:tz Tryz.prog 239=some [.int .u8 0,.int .u8 0,.int .u8 0,.int .u8 0,.int .u8 0,.int .u8 0,.int .u8 0,.int .u8 0,.int .u8 0,.int .u8 0,.int .u8 0,.int .u8 0,.int .u8 0,.int .u8 0,.int .u8 0,.int .u8 0,.int .u8 0]:=by kernel_rfl
@[go_sem] theorem Zjt:YF Tryz.prog 239=some (17,5):=by kernel_rfl
@[go_sem] theorem Znx:JI Tryz.prog 239=none:=by kernel_rfl
@[go_sem] theorem Zju:Um Tryz.prog 239=false:=by kernel_rfl
@[go_sem] theorem go6:goes Tryz.prog 6=true:=by kernel_rfl
@[go_sem] theorem go7:goes Tryz.prog 7=true:=by kernel_rfl
@[go_sem] theorem go8:goes Tryz.prog 8=true:=by kernel_rfl
@[go_sem] theorem ZxM:goes Tryz.prog 10=true:=by kernel_rfl
@[go_sem] theorem ZxN:goes Tryz.prog 11=true:=by kernel_rfl
@[go_sem] theorem ZxO:goes Tryz.prog 12=true:=by kernel_rfl
@[go_sem] theorem ZxP:goes Tryz.prog 13=true:=by kernel_rfl
@[go_sem] theorem ZxQ:goes Tryz.prog 14=true:=by kernel_rfl
@[go_sem] theorem ZxR:goes Tryz.prog 15=true:=by kernel_rfl
@[go_sem] theorem ZxS:goes Tryz.prog 16=true:=by kernel_rfl
@[go_sem] theorem ZxT:goes Tryz.prog 17=true:=by kernel_rfl
@[go_sem] theorem ZxU:goes Tryz.prog 18=true:=by kernel_rfl
@[go_sem] theorem ZxV:goes Tryz.prog 19=true:=by kernel_rfl
@[go_sem] theorem ZxW:goes Tryz.prog 20=true:=by kernel_rfl
@[go_sem] theorem ZxX:goes Tryz.prog 21=true:=by kernel_rfl
@[go_sem] theorem ZxY:goes Tryz.prog 22=true:=by kernel_rfl
@[go_sem] theorem ZxZ:goes Tryz.prog 23=true:=by kernel_rfl
@[go_sem] theorem Zx0:goes Tryz.prog 24=true:=by kernel_rfl
@[go_sem] theorem Zx1:goes Tryz.prog 25=true:=by kernel_rfl
@[go_sem] theorem Zx2:goes Tryz.prog 26=true:=by kernel_rfl
@[go_sem] theorem Zx3:goes Tryz.prog 27=true:=by kernel_rfl
@[go_sem] theorem Zx4:goes Tryz.prog 28=true:=by kernel_rfl
@[go_sem] theorem Zx5:goes Tryz.prog 29=true:=by kernel_rfl
@[go_sem] theorem Zx6:goes Tryz.prog 30=true:=by kernel_rfl
@[go_sem] theorem Zx7:goes Tryz.prog 31=true:=by kernel_rfl
@[go_sem] theorem Zx8:goes Tryz.prog 32=true:=by kernel_rfl
@[go_sem] theorem Zx9:goes Tryz.prog 33=true:=by kernel_rfl
@[go_sem] theorem Zya:goes Tryz.prog 34=true:=by kernel_rfl
@[go_sem] theorem Zyb:goes Tryz.prog 35=true:=by kernel_rfl
@[go_sem] theorem Zyc:goes Tryz.prog 36=true:=by kernel_rfl
@[go_sem] theorem Zyd:goes Tryz.prog 37=true:=by kernel_rfl
@[go_sem] theorem Zye:goes Tryz.prog 38=true:=by kernel_rfl
@[go_sem] theorem Zyf:goes Tryz.prog 39=true:=by kernel_rfl
@[go_sem] theorem Zyg:goes Tryz.prog 40=true:=by kernel_rfl
@[go_sem] theorem Zyh:goes Tryz.prog 41=true:=by kernel_rfl
@[go_sem] theorem Zyi:goes Tryz.prog 42=true:=by kernel_rfl
@[go_sem] theorem Zyj:goes Tryz.prog 43=true:=by kernel_rfl
@[go_sem] theorem Zyk:goes Tryz.prog 44=true:=by kernel_rfl
@[go_sem] theorem Zyl:goes Tryz.prog 45=true:=by kernel_rfl
@[go_sem] theorem Zym:goes Tryz.prog 46=true:=by kernel_rfl
@[go_sem] theorem Zyn:goes Tryz.prog 47=true:=by kernel_rfl
@[go_sem] theorem Zyo:goes Tryz.prog 48=true:=by kernel_rfl
@[go_sem] theorem Zyp:goes Tryz.prog 49=true:=by kernel_rfl
@[go_sem] theorem Zyq:goes Tryz.prog 50=true:=by kernel_rfl
@[go_sem] theorem Zyr:goes Tryz.prog 51=true:=by kernel_rfl
@[go_sem] theorem Zys:goes Tryz.prog 52=true:=by kernel_rfl
@[go_sem] theorem Zyt:goes Tryz.prog 53=true:=by kernel_rfl
@[go_sem] theorem Zyu:goes Tryz.prog 54=true:=by kernel_rfl
@[go_sem] theorem Zyv:goes Tryz.prog 55=true:=by kernel_rfl
@[go_sem] theorem Zyw:goes Tryz.prog 56=true:=by kernel_rfl
@[go_sem] theorem Zyx:goes Tryz.prog 57=true:=by kernel_rfl
@[go_sem] theorem Zyy:goes Tryz.prog 58=true:=by kernel_rfl
@[go_sem] theorem Zyz:goes Tryz.prog 59=true:=by kernel_rfl
@[go_sem] theorem ZyA:goes Tryz.prog 60=true:=by kernel_rfl
@[go_sem] theorem ZyB:goes Tryz.prog 61=true:=by kernel_rfl
@[go_sem] theorem ZyC:goes Tryz.prog 62=true:=by kernel_rfl
@[go_sem] theorem ZyD:goes Tryz.prog 63=true:=by kernel_rfl
@[go_sem] theorem ZyE:goes Tryz.prog 64=true:=by kernel_rfl
@[go_sem] theorem ZyF:goes Tryz.prog 65=true:=by kernel_rfl
@[go_sem] theorem ZyG:goes Tryz.prog 66=true:=by kernel_rfl
@[go_sem] theorem ZyH:goes Tryz.prog 67=true:=by kernel_rfl
@[go_sem] theorem ZyI:goes Tryz.prog 68=true:=by kernel_rfl
@[go_sem] theorem ZyJ:goes Tryz.prog 69=true:=by kernel_rfl
@[go_sem] theorem ZyK:goes Tryz.prog 70=true:=by kernel_rfl
@[go_sem] theorem ZyL:goes Tryz.prog 71=true:=by kernel_rfl
@[go_sem] theorem ZyM:goes Tryz.prog 72=true:=by kernel_rfl
@[go_sem] theorem ZyN:goes Tryz.prog 73=true:=by kernel_rfl
@[go_sem] theorem ZyO:goes Tryz.prog 74=true:=by kernel_rfl
@[go_sem] theorem ZyP:goes Tryz.prog 75=true:=by kernel_rfl
@[go_sem] theorem ZyQ:goes Tryz.prog 76=true:=by kernel_rfl
@[go_sem] theorem ZyR:goes Tryz.prog 77=true:=by kernel_rfl
@[go_sem] theorem ZyS:goes Tryz.prog 78=true:=by kernel_rfl
@[go_sem] theorem ZyT:goes Tryz.prog 79=true:=by kernel_rfl
@[go_sem] theorem ZyU:goes Tryz.prog 80=true:=by kernel_rfl
@[go_sem] theorem ZyV:goes Tryz.prog 81=true:=by kernel_rfl
@[go_sem] theorem ZyW:goes Tryz.prog 82=true:=by kernel_rfl
@[go_sem] theorem ZyX:goes Tryz.prog 83=true:=by kernel_rfl
@[go_sem] theorem ZyY:goes Tryz.prog 84=true:=by kernel_rfl
@[go_sem] theorem ZyZ:goes Tryz.prog 85=true:=by kernel_rfl
@[go_sem] theorem Zy0:goes Tryz.prog 86=true:=by kernel_rfl
@[go_sem] theorem Zy1:goes Tryz.prog 87=true:=by kernel_rfl
@[go_sem] theorem Zy2:goes Tryz.prog 88=true:=by kernel_rfl
@[go_sem] theorem Zy3:goes Tryz.prog 90=true:=by kernel_rfl
@[go_sem] theorem Zy4:goes Tryz.prog 92=true:=by kernel_rfl
@[go_sem] theorem Zy5:goes Tryz.prog 93=true:=by kernel_rfl
@[go_sem] theorem Zy6:goes Tryz.prog 95=true:=by kernel_rfl
@[go_sem] theorem Zy7:goes Tryz.prog 96=true:=by kernel_rfl
@[go_sem] theorem Zy8:goes Tryz.prog 99=true:=by kernel_rfl
@[go_sem] theorem ZsV:goes Tryz.prog 100=true:=by kernel_rfl
@[go_sem] theorem ZsW:goes Tryz.prog 101=true:=by kernel_rfl
@[go_sem] theorem ZsX:goes Tryz.prog 102=true:=by kernel_rfl
@[go_sem] theorem ZsY:goes Tryz.prog 103=true:=by kernel_rfl
@[go_sem] theorem ZsZ:goes Tryz.prog 104=true:=by kernel_rfl
@[go_sem] theorem Zs0:goes Tryz.prog 105=true:=by kernel_rfl
@[go_sem] theorem Zs1:goes Tryz.prog 106=true:=by kernel_rfl
@[go_sem] theorem Zs2:goes Tryz.prog 107=true:=by kernel_rfl
@[go_sem] theorem Zs3:goes Tryz.prog 108=true:=by kernel_rfl
@[go_sem] theorem Zs4:goes Tryz.prog 109=true:=by kernel_rfl
@[go_sem] theorem Zs5:goes Tryz.prog 110=true:=by kernel_rfl
@[go_sem] theorem Zs6:goes Tryz.prog 111=true:=by kernel_rfl
@[go_sem] theorem Zs7:goes Tryz.prog 112=true:=by kernel_rfl
@[go_sem] theorem Zs8:goes Tryz.prog 113=true:=by kernel_rfl
@[go_sem] theorem Zs9:goes Tryz.prog 114=true:=by kernel_rfl
@[go_sem] theorem Zta:goes Tryz.prog 115=true:=by kernel_rfl
@[go_sem] theorem Ztb:goes Tryz.prog 116=true:=by kernel_rfl
@[go_sem] theorem Ztc:goes Tryz.prog 118=true:=by kernel_rfl
@[go_sem] theorem Ztd:goes Tryz.prog 119=true:=by kernel_rfl
@[go_sem] theorem Zte:goes Tryz.prog 120=true:=by kernel_rfl
@[go_sem] theorem Ztf:goes Tryz.prog 121=true:=by kernel_rfl
@[go_sem] theorem Ztg:goes Tryz.prog 122=true:=by kernel_rfl
@[go_sem] theorem Zth:goes Tryz.prog 123=true:=by kernel_rfl
@[go_sem] theorem Zti:goes Tryz.prog 124=true:=by kernel_rfl
@[go_sem] theorem Ztj:goes Tryz.prog 127=true:=by kernel_rfl
@[go_sem] theorem Ztk:goes Tryz.prog 128=true:=by kernel_rfl
@[go_sem] theorem Ztl:goes Tryz.prog 129=true:=by kernel_rfl
@[go_sem] theorem Ztm:goes Tryz.prog 130=true:=by kernel_rfl
@[go_sem] theorem Ztn:goes Tryz.prog 131=true:=by kernel_rfl
@[go_sem] theorem Zto:goes Tryz.prog 132=true:=by kernel_rfl
@[go_sem] theorem Ztp:goes Tryz.prog 133=true:=by kernel_rfl
@[go_sem] theorem Ztq:goes Tryz.prog 135=true:=by kernel_rfl
@[go_sem] theorem Ztr:goes Tryz.prog 136=true:=by kernel_rfl
@[go_sem] theorem Zts:goes Tryz.prog 137=true:=by kernel_rfl
@[go_sem] theorem Ztt:goes Tryz.prog 139=true:=by kernel_rfl
@[go_sem] theorem Ztu:goes Tryz.prog 140=true:=by kernel_rfl
@[go_sem] theorem Ztv:goes Tryz.prog 141=true:=by kernel_rfl
@[go_sem] theorem Ztw:goes Tryz.prog 142=true:=by kernel_rfl
@[go_sem] theorem Ztx:goes Tryz.prog 143=true:=by kernel_rfl
def H7:List Nat:=[104,97,114,110,101,115,115,32,54,53,102,54,48,52,101,52,48,99,55,102,51,100,101,52,52,56,56,97,57,56,54,57,99,55,55,53,99,99,55,99,49,100,99,54,99,54,51,50,53,51,102,49,99,101,57,55,54,54,56,48,100,102,55,48,49,49,97,54,53,55,55,56,32,99,117,116,32,97,116,32,99,111,110,99,108,97,118,101,47,99,111,110,99,108,97,118,101,116,111,112,46,84,111,112,67,104,97,105,110,115,32,99,111,110,99,108,97,118,101,47,99,111,110,99,108,97,118,101,116,111,112,46,84,111,112,82,101,97,100,115]
theorem AT:∃rest,Go.behindMainWord (Go.wordsSigns Tryz.prog.initOrder.toList) = "cut".toList :: rest:=
 gP (L:=H7.map Char.ofNat) (by kernel_rfl) (by kernel_rfl)
theorem Zfm:Tryz.prog.make=some .cut:=AT.elim fun _ h=>nq h
theorem Zbi:Tryz.prog.liftsFinal=false:=AT.elim fun _ h=>gN h
theorem Zbj:Tryz.prog.mayEnter=true:=AT.elim fun _ h=>gO h (by kernel_rfl) (by kernel_rfl) (by kernel_rfl)
theorem nP:Go.ownKnob Tryz.prog.godebug=none:=by kernel_rfl
theorem nQ:Go.laidOutB Tryz.prog=true:=by kernel_rfl
theorem mixed:Tryz.prog.follows .mixedOrders=true:=by kernel_rfl
end Go.Proofs.YtboeoomhjbcecaaGreatDoor

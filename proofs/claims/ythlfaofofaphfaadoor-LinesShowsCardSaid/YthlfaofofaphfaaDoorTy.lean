/- The tables of this seat's program, in V2's words. Printed by gen_ty.py. -/
import Derived.Test.YthlfaofofaphfaaDoorRows
import Derived.Test.YthlfaofofaphfaaDoorV9
import Derived.Test.YthlfaofofaphfaaDoorW3
import Derived.KernelRfl
namespace Go.Proofs.YthlfaofofaphfaaDoor
open Go.V
set_option maxRecDepth 100000
@[go_sem] theorem HX:tn Tryd.prog 3=some 1:=by kernel_rfl
@[go_sem] theorem HY:ta Tryd.prog 3=some false:=by kernel_rfl
@[go_sem] theorem KJ:Wi Tryd.prog 3=some .i64:=by kernel_rfl
@[go_sem] theorem U4:tn Tryd.prog 5=some 1:=by kernel_rfl
@[go_sem] theorem U5:tb Tryd.prog 5=some 1:=by kernel_rfl
@[go_sem] theorem HZ:ta Tryd.prog 5=some false:=by kernel_rfl
@[go_sem] theorem U6:tz Tryd.prog 5=some [.int .u8 0]:=by kernel_rfl
@[go_sem] theorem KK:Wi Tryd.prog 5=some .u8:=by kernel_rfl
@[go_sem] theorem H0:tn Tryd.prog 9=some 1:=by kernel_rfl
@[go_sem] theorem H2:ta Tryd.prog 9=some false:=by kernel_rfl
@[go_sem] theorem KL:Yh Tryd.prog 9=none:=by kernel_rfl
@[go_sem] theorem Iy:YY Tryd.prog 9=none:=by kernel_rfl
@[go_sem] theorem KM:Jw Tryd.prog 9=true:=by kernel_rfl
@[go_sem] theorem Lu:Yh Tryd.prog 22=none:=by kernel_rfl
@[go_sem] theorem NQ:YY Tryd.prog 22=some 34:=by kernel_rfl
@[go_sem] theorem Iz:tn Tryd.prog 32=some 1:=by kernel_rfl
@[go_sem] theorem IA:ta Tryd.prog 32=some false:=by kernel_rfl
@[go_sem] theorem Lv:Yh Tryd.prog 32=none:=by kernel_rfl
@[go_sem] theorem Yc:YY Tryd.prog 32=some 5:=by kernel_rfl
@[go_sem] theorem Lw:tn Tryd.prog 34=some 5:=by kernel_rfl
@[go_sem] theorem Lx:tb Tryd.prog 34=some 56:=by kernel_rfl
@[go_sem] theorem IB:ta Tryd.prog 34=some true:=by kernel_rfl
@[go_sem] theorem Ly:tz Tryd.prog 34=some [.int .i64 0,.int .i64 0,.int .i64 0,.int .i64 0,.slice none 0 0]:=by kernel_rfl
@[go_sem] theorem Lz:tf Tryd.prog 34 0=some 0:=by kernel_rfl
@[go_sem] theorem LA:tf Tryd.prog 34 1=some 1:=by kernel_rfl
@[go_sem] theorem LB:tf Tryd.prog 34 2=some 2:=by kernel_rfl
@[go_sem] theorem LC:tf Tryd.prog 34 3=some 3:=by kernel_rfl
@[go_sem] theorem LD:tf Tryd.prog 34 4=some 4:=by kernel_rfl
@[go_sem] theorem IC:tn Tryd.prog 36=some 1:=by kernel_rfl
@[go_sem] theorem ID:ta Tryd.prog 36=some false:=by kernel_rfl
@[go_sem] theorem P5:tn Tryd.prog 38=some 2:=by kernel_rfl
@[go_sem] theorem IE:tz Tryd.prog 38=some [.pointer none,.slice none 0 0]:=by kernel_rfl
@[go_sem] theorem LF:tf Tryd.prog 38 0=some 0:=by kernel_rfl
@[go_sem] theorem LG:tf Tryd.prog 38 1=some 1:=by kernel_rfl
@[go_sem] theorem LH:Yh Tryd.prog 52=none:=by kernel_rfl
@[go_sem] theorem KN:YY Tryd.prog 52=some 58:=by kernel_rfl
@[go_sem] theorem IF:tn Tryd.prog 56=some 1:=by kernel_rfl
@[go_sem] theorem IG:ta Tryd.prog 56=some false:=by kernel_rfl
@[go_sem] theorem IH:tn Tryd.prog 58=some 2:=by kernel_rfl
@[go_sem] theorem II:ta Tryd.prog 58=some true:=by kernel_rfl
@[go_sem] theorem IJ:tz Tryd.prog 58=some [.pointer none,.int .i64 0]:=by kernel_rfl
@[go_sem] theorem LI:tf Tryd.prog 58 0=some 0:=by kernel_rfl
@[go_sem] theorem LJ:tf Tryd.prog 58 1=some 1:=by kernel_rfl
@[go_sem] theorem KO:Ov Tryd.prog 58=some [(0,1),(1,1)]:=by kernel_rfl
@[go_sem] theorem LK:Yh Tryd.prog 58=none:=by kernel_rfl
@[go_sem] theorem LL:Yh Tryd.prog 59=some (10,9):=by kernel_rfl
@[go_sem] theorem KP:YY Tryd.prog 59=none:=by kernel_rfl
@[go_sem] theorem H3:goes Tryd.prog 5=true:=by kernel_rfl
@[go_sem] theorem H4:goes Tryd.prog 6=true:=by kernel_rfl
@[go_sem] theorem H5:goes Tryd.prog 7=true:=by kernel_rfl
@[go_sem] theorem H6:goes Tryd.prog 8=true:=by kernel_rfl
@[go_sem] theorem IK:goes Tryd.prog 11=true:=by kernel_rfl
@[go_sem] theorem IL:goes Tryd.prog 12=true:=by kernel_rfl
@[go_sem] theorem IM:goes Tryd.prog 13=true:=by kernel_rfl
@[go_sem] theorem IN:goes Tryd.prog 14=true:=by kernel_rfl
@[go_sem] theorem IP:goes Tryd.prog 15=true:=by kernel_rfl
@[go_sem] theorem IQ:goes Tryd.prog 16=true:=by kernel_rfl
@[go_sem] theorem IS:goes Tryd.prog 17=true:=by kernel_rfl
@[go_sem] theorem IT:goes Tryd.prog 18=true:=by kernel_rfl
@[go_sem] theorem IU:goes Tryd.prog 22=true:=by kernel_rfl
@[go_sem] theorem IV:goes Tryd.prog 23=true:=by kernel_rfl
@[go_sem] theorem IW:goes Tryd.prog 24=true:=by kernel_rfl
@[go_sem] theorem IX:goes Tryd.prog 25=true:=by kernel_rfl
@[go_sem] theorem IY:goes Tryd.prog 26=true:=by kernel_rfl
@[go_sem] theorem IZ:goes Tryd.prog 27=true:=by kernel_rfl
@[go_sem] theorem I0:goes Tryd.prog 28=true:=by kernel_rfl
@[go_sem] theorem I1:goes Tryd.prog 29=true:=by kernel_rfl
def QO:List Nat:=[104,97,114,110,101,115,115,32,98,49,99,53,54,99,98,54,99,54,55,51,57,97,99,48,98,53,48,55,48,54,50,52,98,48,56,101,54,55,52,100,52,98,56,57,49,56,49,52,48,52,54,98,97,101,50,100,48,57,101,55,49,101,56,48,101,52,51,55,55,49,56,48,32,99,117,116,32,97,116,32,99,111,110,99,108,97,118,101,47,99,111,110,99,108,97,118,101,108,97,119,46,76,105,110,101,115,83,104,111,119,115,32,99,111,110,99,108,97,118,101,47,99,111,110,99,108,97,118,101,108,97,119,46,76,105,110,101,115,82,101,97,100,115]
theorem Vh:∃rest,Go.behindMainWord (Go.wordsSigns Tryd.prog.initOrder.toList) = "cut".toList :: rest:=
 Tw (L:=QO.map Char.ofNat) (by kernel_rfl) (by kernel_rfl)
theorem NR:Tryd.prog.make=some .cut:=Vh.elim fun _ h=>SR h
theorem P6:Tryd.prog.liftsFinal=false:=Vh.elim fun _ h=>Tu h
theorem P7:Tryd.prog.mayEnter=true:=Vh.elim fun _ h=>Tv h (by kernel_rfl) (by kernel_rfl) (by kernel_rfl)
theorem S5:Go.ownKnob Tryd.prog.godebug=none:=by kernel_rfl
theorem S6:Go.laidOutB Tryd.prog=true:=by kernel_rfl
theorem mixed:Tryd.prog.follows .mixedOrders=true:=by kernel_rfl
end Go.Proofs.YthlfaofofaphfaaDoor

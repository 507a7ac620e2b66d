/- Part Ty. -/
import Derived.Test.YtdpjmhgbmhjniaaDoorRows
import Derived.Test.YtdpjmhgbmhjniaaDoorV9
import Derived.Test.YtdpjmhgbmhjniaaDoorW3
import Derived.KernelRfl
namespace Go.Proofs.YtdpjmhgbmhjniaaDoor
open Go.V
set_option maxRecDepth 100000
@[go_sem] theorem Au:tn Tryd.prog 3=some 1:=by kernel_rfl
@[go_sem] theorem Av:ta Tryd.prog 3=some false:=by kernel_rfl
@[go_sem] theorem Aw:tz Tryd.prog 3=some [.int .i64 0]:=by kernel_rfl
@[go_sem] theorem EZ:Tb Tryd.prog 3=some .i64:=by kernel_rfl
@[go_sem] theorem G6:tn Tryd.prog 5=some 1:=by kernel_rfl
@[go_sem] theorem G7:tb Tryd.prog 5=some 1:=by kernel_rfl
@[go_sem] theorem Ax:ta Tryd.prog 5=some false:=by kernel_rfl
@[go_sem] theorem G8:tz Tryd.prog 5=some [.int .u8 0]:=by kernel_rfl
@[go_sem] theorem E0:Tb Tryd.prog 5=some .u8:=by kernel_rfl
@[go_sem] theorem E1:tn Tryd.prog 9=some 1:=by kernel_rfl
@[go_sem] theorem E2:tb Tryd.prog 9=some 16:=by kernel_rfl
@[go_sem] theorem Ay:ta Tryd.prog 9=some false:=by kernel_rfl
@[go_sem] theorem E3:tz Tryd.prog 9=some [.string ⟨#[]⟩]:=by kernel_rfl
@[go_sem] theorem E4:Yp Tryd.prog 9=none:=by kernel_rfl
@[go_sem] theorem Cl:XD Tryd.prog 9=none:=by kernel_rfl
@[go_sem] theorem E5:Jr Tryd.prog 9=true:=by kernel_rfl
@[go_sem] theorem Cm:tn Tryd.prog 22=some 1:=by kernel_rfl
@[go_sem] theorem Cn:ta Tryd.prog 22=some false:=by kernel_rfl
@[go_sem] theorem Co:tz Tryd.prog 22=some [.slice none 0 0]:=by kernel_rfl
@[go_sem] theorem Fa:Yp Tryd.prog 22=none:=by kernel_rfl
@[go_sem] theorem M5:XD Tryd.prog 22=some 33:=by kernel_rfl
@[go_sem] theorem Cp:tn Tryd.prog 23=some 1:=by kernel_rfl
@[go_sem] theorem Cq:ta Tryd.prog 23=some false:=by kernel_rfl
@[go_sem] theorem Cr:tz Tryd.prog 23=some [.int .i64 0]:=by kernel_rfl
@[go_sem] theorem Cs:tn Tryd.prog 31=some 1:=by kernel_rfl
@[go_sem] theorem Ct:ta Tryd.prog 31=some false:=by kernel_rfl
@[go_sem] theorem Fb:Yp Tryd.prog 31=none:=by kernel_rfl
@[go_sem] theorem OE:XD Tryd.prog 31=some 5:=by kernel_rfl
@[go_sem] theorem IZ:tn Tryd.prog 33=some 5:=by kernel_rfl
@[go_sem] theorem I0:tb Tryd.prog 33=some 56:=by kernel_rfl
@[go_sem] theorem Cu:ta Tryd.prog 33=some true:=by kernel_rfl
@[go_sem] theorem I1:tz Tryd.prog 33=some [.int .i64 0,.int .i64 0,.int .i64 0,.int .i64 0,.slice none 0 0]:=by kernel_rfl
@[go_sem] theorem Fc:tf Tryd.prog 33 0=some 0:=by kernel_rfl
@[go_sem] theorem Fe:tf Tryd.prog 33 1=some 1:=by kernel_rfl
@[go_sem] theorem Ff:tf Tryd.prog 33 2=some 2:=by kernel_rfl
@[go_sem] theorem Fg:tf Tryd.prog 33 3=some 3:=by kernel_rfl
@[go_sem] theorem Fh:tf Tryd.prog 33 4=some 4:=by kernel_rfl
@[go_sem] theorem E8:Lk Tryd.prog 33=some [(0,1),(1,1),(2,1),(3,1),(4,1)]:=by kernel_rfl
@[go_sem] theorem Fi:Yp Tryd.prog 33=none:=by kernel_rfl
@[go_sem] theorem Fj:Yp Tryd.prog 39=none:=by kernel_rfl
@[go_sem] theorem M6:XD Tryd.prog 39=some 9:=by kernel_rfl
@[go_sem] theorem Cv:tn Tryd.prog 42=some 10:=by kernel_rfl
@[go_sem] theorem Cw:ta Tryd.prog 42=some true:=by kernel_rfl
@[go_sem] theorem Fk:Yp Tryd.prog 42=some (10,9):=by kernel_rfl
@[go_sem] theorem E9:XD Tryd.prog 42=none:=by kernel_rfl
@[go_sem] theorem Fl:Jr Tryd.prog 42=false:=by kernel_rfl
@[go_sem] theorem Fm:Yp Tryd.prog 43=none:=by kernel_rfl
@[go_sem] theorem Da:XD Tryd.prog 43=some 49:=by kernel_rfl
@[go_sem] theorem Cx:tn Tryd.prog 47=some 1:=by kernel_rfl
@[go_sem] theorem Cy:ta Tryd.prog 47=some false:=by kernel_rfl
@[go_sem] theorem Cz:tn Tryd.prog 49=some 2:=by kernel_rfl
@[go_sem] theorem CA:ta Tryd.prog 49=some true:=by kernel_rfl
@[go_sem] theorem CB:tz Tryd.prog 49=some [.pointer none,.int .i64 0]:=by kernel_rfl
@[go_sem] theorem Fo:tf Tryd.prog 49 0=some 0:=by kernel_rfl
@[go_sem] theorem Fp:tf Tryd.prog 49 1=some 1:=by kernel_rfl
@[go_sem] theorem Db:Lk Tryd.prog 49=some [(0,1),(1,1)]:=by kernel_rfl
@[go_sem] theorem Fq:Yp Tryd.prog 49=none:=by kernel_rfl
@[go_sem] theorem CC:tn Tryd.prog 55=some 1:=by kernel_rfl
@[go_sem] theorem CD:ta Tryd.prog 55=some false:=by kernel_rfl
@[go_sem] theorem LU:tn Tryd.prog 57=some 2:=by kernel_rfl
@[go_sem] theorem CE:tz Tryd.prog 57=some [.pointer none,.slice none 0 0]:=by kernel_rfl
@[go_sem] theorem Fs:tf Tryd.prog 57 0=some 0:=by kernel_rfl
@[go_sem] theorem Ft:tf Tryd.prog 57 1=some 1:=by kernel_rfl
@[go_sem] theorem Az:goes Tryd.prog 4=true:=by kernel_rfl
@[go_sem] theorem AA:goes Tryd.prog 5=true:=by kernel_rfl
@[go_sem] theorem AB:goes Tryd.prog 6=true:=by kernel_rfl
@[go_sem] theorem AD:goes Tryd.prog 7=true:=by kernel_rfl
@[go_sem] theorem AE:goes Tryd.prog 8=true:=by kernel_rfl
@[go_sem] theorem AF:goes Tryd.prog 9=true:=by kernel_rfl
@[go_sem] theorem CF:goes Tryd.prog 10=true:=by kernel_rfl
@[go_sem] theorem CG:goes Tryd.prog 11=true:=by kernel_rfl
@[go_sem] theorem CH:goes Tryd.prog 12=true:=by kernel_rfl
@[go_sem] theorem CI:goes Tryd.prog 14=true:=by kernel_rfl
@[go_sem] theorem CJ:goes Tryd.prog 15=true:=by kernel_rfl
@[go_sem] theorem CK:goes Tryd.prog 16=true:=by kernel_rfl
@[go_sem] theorem CL:goes Tryd.prog 17=true:=by kernel_rfl
@[go_sem] theorem CM:goes Tryd.prog 18=true:=by kernel_rfl
@[go_sem] theorem CN:goes Tryd.prog 20=true:=by kernel_rfl
@[go_sem] theorem CO:goes Tryd.prog 21=true:=by kernel_rfl
@[go_sem] theorem CP:goes Tryd.prog 22=true:=by kernel_rfl
@[go_sem] theorem CQ:goes Tryd.prog 23=true:=by kernel_rfl
@[go_sem] theorem CR:goes Tryd.prog 24=true:=by kernel_rfl
@[go_sem] theorem CS:goes Tryd.prog 25=true:=by kernel_rfl
@[go_sem] theorem CT:goes Tryd.prog 26=true:=by kernel_rfl
@[go_sem] theorem CU:goes Tryd.prog 27=true:=by kernel_rfl
@[go_sem] theorem CV:goes Tryd.prog 33=true:=by kernel_rfl
@[go_sem] theorem CW:goes Tryd.prog 35=true:=by kernel_rfl
def Wb:List Nat:=[104,97,114,110,101,115,115,32,57,49,57,55,97,52,50,49,50,52,49,98,99,53,52,49,50,51,56,53,57,50,50,48,57,57,52,51,97,51,52,56,53,99,98,48,53,51,57,54,101,51,51,101,53,50,52,48,55,53,50,102,53,97,57,53,99,55,52,98,51,51,97,102,32,99,117,116,32,97,116,32,99,111,110,99,108,97,118,101,47,99,111,110,99,108,97,118,101,108,97,119,46,76,105,110,101,115,82,101,97,100,115]
theorem Sb:∃rest,Go.behindMainWord (Go.wordsSigns Tryd.prog.initOrder.toList) = "cut".toList :: rest:=
 RE (L:=Wb.map Char.ofNat) (by kernel_rfl) (by kernel_rfl)
theorem I3:Tryd.prog.make=some .cut:=Sb.elim fun _ h=>Oq h
theorem LV:Tryd.prog.liftsFinal=false:=Sb.elim fun _ h=>RC h
theorem LW:Tryd.prog.mayEnter=true:=Sb.elim fun _ h=>RD h (by kernel_rfl) (by kernel_rfl) (by kernel_rfl)
theorem OF:Go.ownKnob Tryd.prog.godebug=none:=by kernel_rfl
theorem OG:Go.laidOutB Tryd.prog=true:=by kernel_rfl
theorem mixed:Tryd.prog.follows .mixedOrders=true:=by kernel_rfl
end Go.Proofs.YtdpjmhgbmhjniaaDoor

/- The tables of this seat's program, in V2's words. Printed by gen_ty.py. -/
import Derived.Test.YtnhbpmoeaodmnaaGreatDoorRows
import Derived.Test.YtnhbpmoeaodmnaaGreatDoorV9
import Derived.Test.YtnhbpmoeaodmnaaGreatDoorW3
import Derived.KernelRfl
namespace Go.Proofs.YtnhbpmoeaodmnaaGreatDoor
open Go.V
set_option maxRecDepth 100000
@[go_sem] theorem tn1:tn Tryz.prog 1=some 1:=by kernel_rfl
@[go_sem] theorem tb1:tb Tryz.prog 1=some 8:=by kernel_rfl
@[go_sem] theorem ta1:ta Tryz.prog 1=some false:=by kernel_rfl
@[go_sem] theorem tz1:tz Tryz.prog 1=some [.nilFunc]:=by kernel_rfl
@[go_sem] theorem tb2:tb Tryz.prog 2=some 8:=by kernel_rfl
@[go_sem] theorem tn3:tn Tryz.prog 3=some 1:=by kernel_rfl
@[go_sem] theorem tb3:tb Tryz.prog 3=some 8:=by kernel_rfl
@[go_sem] theorem ta3:ta Tryz.prog 3=some false:=by kernel_rfl
@[go_sem] theorem tz3:tz Tryz.prog 3=some [.int .i64 0]:=by kernel_rfl
@[go_sem] theorem tint3:tint Tryz.prog 3=some .i64:=by kernel_rfl
@[go_sem] theorem tn4:tn Tryz.prog 4=some 1:=by kernel_rfl
@[go_sem] theorem tb4:tb Tryz.prog 4=some 1:=by kernel_rfl
@[go_sem] theorem ta4:ta Tryz.prog 4=some false:=by kernel_rfl
@[go_sem] theorem tn5:tn Tryz.prog 5=some 1:=by kernel_rfl
@[go_sem] theorem tb5:tb Tryz.prog 5=some 1:=by kernel_rfl
@[go_sem] theorem ta5:ta Tryz.prog 5=some false:=by kernel_rfl
@[go_sem] theorem tz5:tz Tryz.prog 5=some [.int .u8 0]:=by kernel_rfl
@[go_sem] theorem tint5:tint Tryz.prog 5=some .u8:=by kernel_rfl
@[go_sem] theorem tarr22:tarr Tryz.prog 22=none:=by kernel_rfl
@[go_sem] theorem tsl22:tsl Tryz.prog 22=some 46:=by kernel_rfl
@[go_sem] theorem tarr24:tarr Tryz.prog 24=some (5,4):=by kernel_rfl
@[go_sem] theorem tsl24:tsl Tryz.prog 24=none:=by kernel_rfl
@[go_sem] theorem tn25:tn Tryz.prog 25=some 1:=by kernel_rfl
@[go_sem] theorem ta25:ta Tryz.prog 25=some false:=by kernel_rfl
@[go_sem] theorem tsl25:tsl Tryz.prog 25=some 41:=by kernel_rfl
@[go_sem] theorem tarr26:tarr Tryz.prog 26=some (5,3):=by kernel_rfl
@[go_sem] theorem tsl26:tsl Tryz.prog 26=none:=by kernel_rfl
@[go_sem] theorem tn27:tn Tryz.prog 27=some 1:=by kernel_rfl
@[go_sem] theorem ta27:ta Tryz.prog 27=some false:=by kernel_rfl
@[go_sem] theorem tsl27:tsl Tryz.prog 27=some 116:=by kernel_rfl
@[go_sem] theorem tn29:tn Tryz.prog 29=some 13:=by kernel_rfl
@[go_sem] theorem ta29:ta Tryz.prog 29=some true:=by kernel_rfl
@[go_sem] theorem tz29:tz Tryz.prog 29=some [.int .i64 0,.bool false,.bool false,.bool false,.bool false,.bool false,.slice none 0 0,.int .i64 0,.int .i64 0,.int .i64 0,.int .i64 0,.int .i64 0,.slice none 0 0]:=by kernel_rfl
@[go_sem] theorem tf29_0:tf Tryz.prog 29 0=some 0:=by kernel_rfl
@[go_sem] theorem tf29_1:tf Tryz.prog 29 1=some 1:=by kernel_rfl
@[go_sem] theorem tf29_2:tf Tryz.prog 29 2=some 6:=by kernel_rfl
@[go_sem] theorem tf29_3:tf Tryz.prog 29 3=some 7:=by kernel_rfl
@[go_sem] theorem tf29_4:tf Tryz.prog 29 4=some 12:=by kernel_rfl
@[go_sem] theorem tpl29:tpl Tryz.prog 29=some [(0,1),(1,5),(6,1),(7,5),(12,1)]:=by kernel_rfl
@[go_sem] theorem tarr29:tarr Tryz.prog 29=none:=by kernel_rfl
@[go_sem] theorem tn41:tn Tryz.prog 41=some 1:=by kernel_rfl
@[go_sem] theorem tb41:tb Tryz.prog 41=some 24:=by kernel_rfl
@[go_sem] theorem ta41:ta Tryz.prog 41=some false:=by kernel_rfl
@[go_sem] theorem tz41:tz Tryz.prog 41=some [.slice none 0 0]:=by kernel_rfl
@[go_sem] theorem tarr41:tarr Tryz.prog 41=none:=by kernel_rfl
@[go_sem] theorem tsl41:tsl Tryz.prog 41=some 77:=by kernel_rfl
@[go_sem] theorem tstr41:tstr Tryz.prog 41=false:=by kernel_rfl
@[go_sem] theorem tn44:tn Tryz.prog 44=some 1:=by kernel_rfl
@[go_sem] theorem ta44:ta Tryz.prog 44=some false:=by kernel_rfl
@[go_sem] theorem tarr44:tarr Tryz.prog 44=none:=by kernel_rfl
@[go_sem] theorem tsl44:tsl Tryz.prog 44=some 5:=by kernel_rfl
@[go_sem] theorem tstr44:tstr Tryz.prog 44=false:=by kernel_rfl
@[go_sem] theorem tn46:tn Tryz.prog 46=some 5:=by kernel_rfl
@[go_sem] theorem tb46:tb Tryz.prog 46=some 56:=by kernel_rfl
@[go_sem] theorem ta46:ta Tryz.prog 46=some true:=by kernel_rfl
@[go_sem] theorem tz46:tz Tryz.prog 46=some [.int .i64 0,.int .i64 0,.int .i64 0,.int .i64 0,.slice none 0 0]:=by kernel_rfl
@[go_sem] theorem tf46_0:tf Tryz.prog 46 0=some 0:=by kernel_rfl
@[go_sem] theorem tf46_1:tf Tryz.prog 46 1=some 1:=by kernel_rfl
@[go_sem] theorem tf46_2:tf Tryz.prog 46 2=some 2:=by kernel_rfl
@[go_sem] theorem tf46_3:tf Tryz.prog 46 3=some 3:=by kernel_rfl
@[go_sem] theorem tf46_4:tf Tryz.prog 46 4=some 4:=by kernel_rfl
@[go_sem] theorem tn49:tn Tryz.prog 49=some 1:=by kernel_rfl
@[go_sem] theorem ta49:ta Tryz.prog 49=some false:=by kernel_rfl
@[go_sem] theorem tn52:tn Tryz.prog 52=some 1:=by kernel_rfl
@[go_sem] theorem ta52:ta Tryz.prog 52=some false:=by kernel_rfl
@[go_sem] theorem tarr52:tarr Tryz.prog 52=none:=by kernel_rfl
@[go_sem] theorem tsl52:tsl Tryz.prog 52=some 56:=by kernel_rfl
@[go_sem] theorem tn53:tn Tryz.prog 53=some 1:=by kernel_rfl
@[go_sem] theorem ta53:ta Tryz.prog 53=some false:=by kernel_rfl
@[go_sem] theorem tarr53:tarr Tryz.prog 53=none:=by kernel_rfl
@[go_sem] theorem tsl53:tsl Tryz.prog 53=some 98:=by kernel_rfl
@[go_sem] theorem tstr53:tstr Tryz.prog 53=false:=by kernel_rfl
@[go_sem] theorem tz55:tz Tryz.prog 55=some [.slice none 0 0,.slice none 0 0,.int .i64 0,.bool false,.bool false,.bool false,.bool false,.bool false,.slice none 0 0,.int .i64 0,.int .i64 0,.int .i64 0,.int .i64 0,.int .i64 0,.slice none 0 0]:=by kernel_rfl
@[go_sem] theorem tf55_0:tf Tryz.prog 55 0=some 0:=by kernel_rfl
@[go_sem] theorem tf55_1:tf Tryz.prog 55 1=some 1:=by kernel_rfl
@[go_sem] theorem tf55_2:tf Tryz.prog 55 2=some 2:=by kernel_rfl
@[go_sem] theorem tpl55:tpl Tryz.prog 55=some [(0,1),(1,1),(2,13)]:=by kernel_rfl
@[go_sem] theorem tarr55:tarr Tryz.prog 55=none:=by kernel_rfl
@[go_sem] theorem tn56:tn Tryz.prog 56=some 1:=by kernel_rfl
@[go_sem] theorem tb56:tb Tryz.prog 56=some 8:=by kernel_rfl
@[go_sem] theorem ta56:ta Tryz.prog 56=some false:=by kernel_rfl
@[go_sem] theorem tz56:tz Tryz.prog 56=some [.pointer none]:=by kernel_rfl
@[go_sem] theorem tn58:tn Tryz.prog 58=some 2:=by kernel_rfl
@[go_sem] theorem ta58:ta Tryz.prog 58=some true:=by kernel_rfl
@[go_sem] theorem tz58:tz Tryz.prog 58=some [.slice none 0 0,.int .i64 0]:=by kernel_rfl
@[go_sem] theorem tf58_0:tf Tryz.prog 58 0=some 0:=by kernel_rfl
@[go_sem] theorem tf58_1:tf Tryz.prog 58 1=some 1:=by kernel_rfl
@[go_sem] theorem tpl58:tpl Tryz.prog 58=some [(0,1),(1,1)]:=by kernel_rfl
@[go_sem] theorem tarr58:tarr Tryz.prog 58=none:=by kernel_rfl
@[go_sem] theorem tn60:tn Tryz.prog 60=some 2:=by kernel_rfl
@[go_sem] theorem ta60:ta Tryz.prog 60=some true:=by kernel_rfl
@[go_sem] theorem tz60:tz Tryz.prog 60=some [.int .i64 0,.int .i64 0]:=by kernel_rfl
@[go_sem] theorem tf60_0:tf Tryz.prog 60 0=some 0:=by kernel_rfl
@[go_sem] theorem tf60_1:tf Tryz.prog 60 1=some 1:=by kernel_rfl
@[go_sem] theorem tpl60:tpl Tryz.prog 60=some [(0,1),(1,1)]:=by kernel_rfl
@[go_sem] theorem teg60:teg Tryz.prog 60=false:=by kernel_rfl
@[go_sem] theorem tflat60:flat Tryz.prog 6 60=some [some .i64,some .i64]:=by kernel_rfl
@[go_sem] theorem tarr60:tarr Tryz.prog 60=none:=by kernel_rfl
@[go_sem] theorem tn61:tn Tryz.prog 61=some 1:=by kernel_rfl
@[go_sem] theorem tb61:tb Tryz.prog 61=some 24:=by kernel_rfl
@[go_sem] theorem ta61:ta Tryz.prog 61=some false:=by kernel_rfl
@[go_sem] theorem tz61:tz Tryz.prog 61=some [.slice none 0 0]:=by kernel_rfl
@[go_sem] theorem tarr61:tarr Tryz.prog 61=none:=by kernel_rfl
@[go_sem] theorem tsl61:tsl Tryz.prog 61=some 96:=by kernel_rfl
@[go_sem] theorem tstr61:tstr Tryz.prog 61=false:=by kernel_rfl
@[go_sem] theorem tn63:tn Tryz.prog 63=some 3:=by kernel_rfl
@[go_sem] theorem ta63:ta Tryz.prog 63=some true:=by kernel_rfl
@[go_sem] theorem tz63:tz Tryz.prog 63=some [.int .i64 0,.int .i64 0,.slice none 0 0]:=by kernel_rfl
@[go_sem] theorem tf63_0:tf Tryz.prog 63 0=some 0:=by kernel_rfl
@[go_sem] theorem tf63_1:tf Tryz.prog 63 1=some 2:=by kernel_rfl
@[go_sem] theorem tpl63:tpl Tryz.prog 63=some [(0,2),(2,1)]:=by kernel_rfl
@[go_sem] theorem tarr63:tarr Tryz.prog 63=none:=by kernel_rfl
@[go_sem] theorem tn64:tn Tryz.prog 64=some 1:=by kernel_rfl
@[go_sem] theorem ta64:ta Tryz.prog 64=some false:=by kernel_rfl
@[go_sem] theorem tn65:tn Tryz.prog 65=some 1:=by kernel_rfl
@[go_sem] theorem ta65:ta Tryz.prog 65=some false:=by kernel_rfl
@[go_sem] theorem tn66:tn Tryz.prog 66=some 8:=by kernel_rfl
@[go_sem] theorem ta66:ta Tryz.prog 66=some true:=by kernel_rfl
@[go_sem] theorem tarr66:tarr Tryz.prog 66=some (8,3):=by kernel_rfl
@[go_sem] theorem tsl66:tsl Tryz.prog 66=none:=by kernel_rfl
@[go_sem] theorem tstr66:tstr Tryz.prog 66=false:=by kernel_rfl
@[go_sem] theorem tn68:tn Tryz.prog 68=some 2:=by kernel_rfl
@[go_sem] theorem ta68:ta Tryz.prog 68=some true:=by kernel_rfl
@[go_sem] theorem tz68:tz Tryz.prog 68=some [.int .i64 0,.int .i64 0]:=by kernel_rfl
@[go_sem] theorem tpl68:tpl Tryz.prog 68=some [(0,1),(1,1)]:=by kernel_rfl
@[go_sem] theorem teg68:teg Tryz.prog 68=false:=by kernel_rfl
@[go_sem] theorem tflat68:flat Tryz.prog 6 68=some [some .i64,some .i64]:=by kernel_rfl
@[go_sem] theorem tarr68:tarr Tryz.prog 68=none:=by kernel_rfl
@[go_sem] theorem tarr69:tarr Tryz.prog 69=some (8,68):=by kernel_rfl
@[go_sem] theorem tsl69:tsl Tryz.prog 69=none:=by kernel_rfl
@[go_sem] theorem tn70:tn Tryz.prog 70=some 8:=by kernel_rfl
@[go_sem] theorem ta70:ta Tryz.prog 70=some true:=by kernel_rfl
@[go_sem] theorem tz70:tz Tryz.prog 70=some [.bool false,.bool false,.bool false,.bool false,.bool false,.bool false,.bool false,.bool false]:=by kernel_rfl
@[go_sem] theorem tpl70:tpl Tryz.prog 70=none:=by kernel_rfl
@[go_sem] theorem tarr70:tarr Tryz.prog 70=some (8,4):=by kernel_rfl
@[go_sem] theorem tsl70:tsl Tryz.prog 70=none:=by kernel_rfl
@[go_sem] theorem tstr70:tstr Tryz.prog 70=false:=by kernel_rfl
@[go_sem] theorem tn72:tn Tryz.prog 72=some 40:=by kernel_rfl
@[go_sem] theorem ta72:ta Tryz.prog 72=some true:=by kernel_rfl
@[go_sem] theorem tz72:tz Tryz.prog 72=some [.int .i64 0,.int .i64 0,.int .i64 0,.int .i64 0,.int .i64 0,.int .i64 0,.int .i64 0,.int .i64 0,.int .i64 0,.int .i64 0,.int .i64 0,.int .i64 0,.int .i64 0,.int .i64 0,.int .i64 0,.int .i64 0,.int .i64 0,.int .i64 0,.int .i64 0,.int .i64 0,.int .i64 0,.int .i64 0,.int .i64 0,.int .i64 0,.int .i64 0,.int .i64 0,.int .i64 0,.int .i64 0,.int .i64 0,.int .i64 0,.int .i64 0,.int .i64 0,.bool false,.bool false,.bool false,.bool false,.bool false,.bool false,.bool false,.bool false]:=by kernel_rfl
@[go_sem] theorem tf72_0:tf Tryz.prog 72 0=some 0:=by kernel_rfl
@[go_sem] theorem tf72_1:tf Tryz.prog 72 1=some 8:=by kernel_rfl
@[go_sem] theorem tf72_2:tf Tryz.prog 72 2=some 16:=by kernel_rfl
@[go_sem] theorem tf72_3:tf Tryz.prog 72 3=some 32:=by kernel_rfl
@[go_sem] theorem tpl72:tpl Tryz.prog 72=some [(0,8),(8,8),(16,16),(32,8)]:=by kernel_rfl
@[go_sem] theorem tarr72:tarr Tryz.prog 72=none:=by kernel_rfl
@[go_sem] theorem tz74:tz Tryz.prog 74=some [.int .i64 0,.bool false,.slice none 0 0,.int .i64 0,.int .i64 0,.int .i64 0,.slice none 0 0,.int .i64 0,.int .i64 0,.pointer none,.map none,.slice none 0 0,.int .i64 0,.int .i64 0,.int .i64 0,.int .i64 0,.int .i64 0,.int .i64 0,.int .i64 0,.int .i64 0,.int .i64 0,.int .i64 0,.int .i64 0,.int .i64 0,.int .i64 0,.int .i64 0,.int .i64 0,.int .i64 0,.int .i64 0,.int .i64 0,.int .i64 0,.int .i64 0,.int .i64 0,.int .i64 0,.int .i64 0,.int .i64 0,.int .i64 0,.int .i64 0,.int .i64 0,.int .i64 0,.int .i64 0,.int .i64 0,.int .i64 0,.int .i64 0,.bool false,.bool false,.bool false,.bool false,.bool false,.bool false,.bool false,.bool false,.slice none 0 0,.slice none 0 0,.slice none 0 0,.nilFunc,.int .i64 0]:=by kernel_rfl
@[go_sem] theorem tf74_0:tf Tryz.prog 74 0=some 0:=by kernel_rfl
@[go_sem] theorem tf74_1:tf Tryz.prog 74 1=some 1:=by kernel_rfl
@[go_sem] theorem tf74_2:tf Tryz.prog 74 2=some 2:=by kernel_rfl
@[go_sem] theorem tf74_3:tf Tryz.prog 74 3=some 4:=by kernel_rfl
@[go_sem] theorem tf74_4:tf Tryz.prog 74 4=some 7:=by kernel_rfl
@[go_sem] theorem tf74_5:tf Tryz.prog 74 5=some 9:=by kernel_rfl
@[go_sem] theorem tf74_6:tf Tryz.prog 74 6=some 10:=by kernel_rfl
@[go_sem] theorem tf74_7:tf Tryz.prog 74 7=some 11:=by kernel_rfl
@[go_sem] theorem tf74_8:tf Tryz.prog 74 8=some 12:=by kernel_rfl
@[go_sem] theorem tf74_9:tf Tryz.prog 74 9=some 52:=by kernel_rfl
@[go_sem] theorem tf74_10:tf Tryz.prog 74 10=some 53:=by kernel_rfl
@[go_sem] theorem tf74_11:tf Tryz.prog 74 11=some 54:=by kernel_rfl
@[go_sem] theorem tf74_12:tf Tryz.prog 74 12=some 55:=by kernel_rfl
@[go_sem] theorem tf74_13:tf Tryz.prog 74 13=some 56:=by kernel_rfl
@[go_sem] theorem tpl74:tpl Tryz.prog 74=some [(0,1),(1,1),(2,2),(4,3),(7,2),(9,1),(10,1),(11,1),(12,40),(52,1),(53,1),(54,1),(55,1),(56,1)]:=by kernel_rfl
@[go_sem] theorem tarr74:tarr Tryz.prog 74=none:=by kernel_rfl
@[go_sem] theorem tn77:tn Tryz.prog 77=some 5:=by kernel_rfl
@[go_sem] theorem tb77:tb Tryz.prog 77=some 40:=by kernel_rfl
@[go_sem] theorem ta77:ta Tryz.prog 77=some true:=by kernel_rfl
@[go_sem] theorem tz77:tz Tryz.prog 77=some [.int .i64 0,.int .i64 0,.int .i64 0,.int .i64 0,.int .i64 0]:=by kernel_rfl
@[go_sem] theorem tf77_0:tf Tryz.prog 77 0=some 0:=by kernel_rfl
@[go_sem] theorem tf77_1:tf Tryz.prog 77 1=some 1:=by kernel_rfl
@[go_sem] theorem tf77_2:tf Tryz.prog 77 2=some 2:=by kernel_rfl
@[go_sem] theorem tf77_3:tf Tryz.prog 77 3=some 3:=by kernel_rfl
@[go_sem] theorem tf77_4:tf Tryz.prog 77 4=some 4:=by kernel_rfl
@[go_sem] theorem tpl77:tpl Tryz.prog 77=some [(0,1),(1,1),(2,1),(3,1),(4,1)]:=by kernel_rfl
@[go_sem] theorem teg77:teg Tryz.prog 77=false:=by kernel_rfl
@[go_sem] theorem tflat77:flat Tryz.prog 6 77=some [some .i64,some .i64,some .i64,some .i64,some .i64]:=by kernel_rfl
@[go_sem] theorem tarr77:tarr Tryz.prog 77=none:=by kernel_rfl
@[go_sem] theorem tarr84:tarr Tryz.prog 84=none:=by kernel_rfl
@[go_sem] theorem tsl84:tsl Tryz.prog 84=some 90:=by kernel_rfl
@[go_sem] theorem tn88:tn Tryz.prog 88=some 1:=by kernel_rfl
@[go_sem] theorem ta88:ta Tryz.prog 88=some false:=by kernel_rfl
@[go_sem] theorem tn90:tn Tryz.prog 90=some 2:=by kernel_rfl
@[go_sem] theorem ta90:ta Tryz.prog 90=some true:=by kernel_rfl
@[go_sem] theorem tz90:tz Tryz.prog 90=some [.pointer none,.int .i64 0]:=by kernel_rfl
@[go_sem] theorem tf90_0:tf Tryz.prog 90 0=some 0:=by kernel_rfl
@[go_sem] theorem tf90_1:tf Tryz.prog 90 1=some 1:=by kernel_rfl
@[go_sem] theorem tpl90:tpl Tryz.prog 90=some [(0,1),(1,1)]:=by kernel_rfl
@[go_sem] theorem tarr90:tarr Tryz.prog 90=none:=by kernel_rfl
@[go_sem] theorem tn96:tn Tryz.prog 96=some 8:=by kernel_rfl
@[go_sem] theorem tb96:tb Tryz.prog 96=some 64:=by kernel_rfl
@[go_sem] theorem ta96:ta Tryz.prog 96=some true:=by kernel_rfl
@[go_sem] theorem tz96:tz Tryz.prog 96=some [.int .i64 0,.int .i64 0,.int .i64 0,.int .i64 0,.int .i64 0,.int .i64 0,.int .i64 0,.int .i64 0]:=by kernel_rfl
@[go_sem] theorem tf96_0:tf Tryz.prog 96 0=some 0:=by kernel_rfl
@[go_sem] theorem tf96_1:tf Tryz.prog 96 1=some 1:=by kernel_rfl
@[go_sem] theorem tf96_2:tf Tryz.prog 96 2=some 3:=by kernel_rfl
@[go_sem] theorem tpl96:tpl Tryz.prog 96=some [(0,1),(1,2),(3,5)]:=by kernel_rfl
@[go_sem] theorem teg96:teg Tryz.prog 96=false:=by kernel_rfl
@[go_sem] theorem tflat96:flat Tryz.prog 6 96=some [some .i64,some .i64,some .i64,some .i64,some .i64,some .i64,some .i64,some .i64]:=by kernel_rfl
@[go_sem] theorem tarr96:tarr Tryz.prog 96=none:=by kernel_rfl
@[go_sem] theorem tn98:tn Tryz.prog 98=some 14:=by kernel_rfl
@[go_sem] theorem tb98:tb Tryz.prog 98=some 128:=by kernel_rfl
@[go_sem] theorem ta98:ta Tryz.prog 98=some true:=by kernel_rfl
@[go_sem] theorem tz98:tz Tryz.prog 98=some [.int .i64 0,.int .i64 0,.int .i64 0,.int .i64 0,.int .i64 0,.int .i64 0,.int .i64 0,.int .i64 0,.int .i64 0,.int .i64 0,.int .i64 0,.int .i64 0,.int .i64 0,.slice none 0 0]:=by kernel_rfl
@[go_sem] theorem tf98_0:tf Tryz.prog 98 0=some 0:=by kernel_rfl
@[go_sem] theorem tf98_1:tf Tryz.prog 98 1=some 1:=by kernel_rfl
@[go_sem] theorem tf98_2:tf Tryz.prog 98 2=some 2:=by kernel_rfl
@[go_sem] theorem tf98_3:tf Tryz.prog 98 3=some 3:=by kernel_rfl
@[go_sem] theorem tf98_4:tf Tryz.prog 98 4=some 5:=by kernel_rfl
@[go_sem] theorem tf98_5:tf Tryz.prog 98 5=some 13:=by kernel_rfl
@[go_sem] theorem tpl98:tpl Tryz.prog 98=some [(0,1),(1,1),(2,1),(3,2),(5,8),(13,1)]:=by kernel_rfl
@[go_sem] theorem tarr98:tarr Tryz.prog 98=none:=by kernel_rfl
@[go_sem] theorem tn116:tn Tryz.prog 116=some 5:=by kernel_rfl
@[go_sem] theorem tb116:tb Tryz.prog 116=some 40:=by kernel_rfl
@[go_sem] theorem tz116:tz Tryz.prog 116=some [.int .i64 0,.int .i64 0,.int .i64 0,.int .i64 0,.int .i64 0]:=by kernel_rfl
@[go_sem] theorem tpl116:tpl Tryz.prog 116=some [(0,1),(1,1),(2,1),(3,2)]:=by kernel_rfl
@[go_sem] theorem tarr116:tarr Tryz.prog 116=none:=by kernel_rfl
@[go_sem] theorem tn119:tn Tryz.prog 119=some 1:=by kernel_rfl
@[go_sem] theorem ta119:ta Tryz.prog 119=some false:=by kernel_rfl
@[go_sem] theorem tn120:tn Tryz.prog 120=some 1:=by kernel_rfl
@[go_sem] theorem ta120:ta Tryz.prog 120=some false:=by kernel_rfl
@[go_sem] theorem tz122:tz Tryz.prog 122=some [.int .i64 0,.int .i64 0,.map none,.bool false,.map none,.map none]:=by kernel_rfl
@[go_sem] theorem tf122_0:tf Tryz.prog 122 0=some 0:=by kernel_rfl
@[go_sem] theorem tf122_1:tf Tryz.prog 122 1=some 2:=by kernel_rfl
@[go_sem] theorem tf122_2:tf Tryz.prog 122 2=some 3:=by kernel_rfl
@[go_sem] theorem tf122_3:tf Tryz.prog 122 3=some 4:=by kernel_rfl
@[go_sem] theorem tf122_4:tf Tryz.prog 122 4=some 5:=by kernel_rfl
@[go_sem] theorem tpl122:tpl Tryz.prog 122=some [(0,2),(2,1),(3,1),(4,1),(5,1)]:=by kernel_rfl
@[go_sem] theorem tarr122:tarr Tryz.prog 122=none:=by kernel_rfl
@[go_sem] theorem tn134:tn Tryz.prog 134=some 3:=by kernel_rfl
@[go_sem] theorem ta134:ta Tryz.prog 134=some true:=by kernel_rfl
@[go_sem] theorem tz134:tz Tryz.prog 134=some [.int .i64 0,.int .i64 0,.int .i64 0]:=by kernel_rfl
@[go_sem] theorem tf134_0:tf Tryz.prog 134 0=some 0:=by kernel_rfl
@[go_sem] theorem tf134_1:tf Tryz.prog 134 1=some 1:=by kernel_rfl
@[go_sem] theorem tf134_2:tf Tryz.prog 134 2=some 2:=by kernel_rfl
@[go_sem] theorem tpl134:tpl Tryz.prog 134=some [(0,1),(1,1),(2,1)]:=by kernel_rfl
@[go_sem] theorem tarr134:tarr Tryz.prog 134=none:=by kernel_rfl
@[go_sem] theorem tn138:tn Tryz.prog 138=some 11:=by kernel_rfl
@[go_sem] theorem ta138:ta Tryz.prog 138=some true:=by kernel_rfl
@[go_sem] theorem tz138:tz Tryz.prog 138=some [.slice none 0 0,.int .i64 0,.int .i64 0,.bool false,.bool false,.bool false,.bool false,.bool false,.bool false,.bool false,.bool false]:=by kernel_rfl
@[go_sem] theorem tf138_0:tf Tryz.prog 138 0=some 0:=by kernel_rfl
@[go_sem] theorem tf138_1:tf Tryz.prog 138 1=some 1:=by kernel_rfl
@[go_sem] theorem tf138_2:tf Tryz.prog 138 2=some 2:=by kernel_rfl
@[go_sem] theorem tf138_3:tf Tryz.prog 138 3=some 3:=by kernel_rfl
@[go_sem] theorem tpl138:tpl Tryz.prog 138=some [(0,1),(1,1),(2,1),(3,8)]:=by kernel_rfl
@[go_sem] theorem tarr138:tarr Tryz.prog 138=none:=by kernel_rfl
@[go_sem] theorem tint164:tint Tryz.prog 164=some .u64:=by kernel_rfl
@[go_sem] theorem tn170:tn Tryz.prog 170=some 5:=by kernel_rfl
@[go_sem] theorem ta170:ta Tryz.prog 170=some true:=by kernel_rfl
@[go_sem] theorem tz170:tz Tryz.prog 170=some [.pointer none,.pointer none,.pointer none,.pointer none,.pointer none]:=by kernel_rfl
@[go_sem] theorem tpl170:tpl Tryz.prog 170=none:=by kernel_rfl
@[go_sem] theorem tarr170:tarr Tryz.prog 170=some (5,88):=by kernel_rfl
@[go_sem] theorem tstr170:tstr Tryz.prog 170=false:=by kernel_rfl
@[go_sem] theorem tz173:tz Tryz.prog 173=some [.int .i64 0,.int .i64 0,.int .i64 0,.int .i64 0]:=by kernel_rfl
@[go_sem] theorem tpl173:tpl Tryz.prog 173=none:=by kernel_rfl
@[go_sem] theorem tarr173:tarr Tryz.prog 173=some (4,3):=by kernel_rfl
@[go_sem] theorem tsl173:tsl Tryz.prog 173=none:=by kernel_rfl
@[go_sem] theorem tstr173:tstr Tryz.prog 173=false:=by kernel_rfl
@[go_sem] theorem tn176:tn Tryz.prog 176=some 0:=by kernel_rfl
@[go_sem] theorem tz176:tz Tryz.prog 176=some []:=by kernel_rfl
@[go_sem] theorem tpl176:tpl Tryz.prog 176=some []:=by kernel_rfl
@[go_sem] theorem tarr176:tarr Tryz.prog 176=none:=by kernel_rfl
@[go_sem] theorem tn187:tn Tryz.prog 187=some 1:=by kernel_rfl
@[go_sem] theorem ta187:ta Tryz.prog 187=some false:=by kernel_rfl
@[go_sem] theorem tint187:tint Tryz.prog 187=some .u32:=by kernel_rfl
@[go_sem] theorem tn189:tn Tryz.prog 189=some 8:=by kernel_rfl
@[go_sem] theorem ta189:ta Tryz.prog 189=some true:=by kernel_rfl
@[go_sem] theorem tz189:tz Tryz.prog 189=some [.int .u32 0,.int .u32 0,.int .u32 0,.int .u32 0,.int .u32 0,.int .u32 0,.int .u32 0,.int .u32 0]:=by kernel_rfl
@[go_sem] theorem tpl189:tpl Tryz.prog 189=none:=by kernel_rfl
@[go_sem] theorem tarr189:tarr Tryz.prog 189=some (8,187):=by kernel_rfl
@[go_sem] theorem tsl189:tsl Tryz.prog 189=none:=by kernel_rfl
@[go_sem] theorem tstr189:tstr Tryz.prog 189=false:=by kernel_rfl
@[go_sem] theorem tarr213:tarr Tryz.prog 213=none:=by kernel_rfl
@[go_sem] theorem tsl213:tsl Tryz.prog 213=some 61:=by kernel_rfl
@[go_sem] theorem tz217:tz Tryz.prog 217=some [.int .u32 0,.int .u32 0,.int .u32 0,.int .u32 0,.int .u32 0,.int .u32 0,.int .u32 0,.int .u32 0,.int .u32 0,.int .u32 0,.int .u32 0,.int .u32 0,.int .u32 0,.int .u32 0,.int .u32 0,.int .u32 0,.int .u32 0,.int .u32 0,.int .u32 0,.int .u32 0,.int .u32 0,.int .u32 0,.int .u32 0,.int .u32 0,.int .u32 0,.int .u32 0,.int .u32 0,.int .u32 0,.int .u32 0,.int .u32 0,.int .u32 0,.int .u32 0,.int .u32 0,.int .u32 0,.int .u32 0,.int .u32 0,.int .u32 0,.int .u32 0,.int .u32 0,.int .u32 0,.int .u32 0,.int .u32 0,.int .u32 0,.int .u32 0,.int .u32 0,.int .u32 0,.int .u32 0,.int .u32 0,.int .u32 0,.int .u32 0,.int .u32 0,.int .u32 0,.int .u32 0,.int .u32 0,.int .u32 0,.int .u32 0,.int .u32 0,.int .u32 0,.int .u32 0,.int .u32 0,.int .u32 0,.int .u32 0,.int .u32 0,.int .u32 0]:=by kernel_rfl
@[go_sem] theorem tarr217:tarr Tryz.prog 217=some (64,187):=by kernel_rfl
@[go_sem] theorem tsl217:tsl Tryz.prog 217=none:=by kernel_rfl
@[go_sem] theorem tn225:tn Tryz.prog 225=some 64:=by kernel_rfl
@[go_sem] theorem ta225:ta Tryz.prog 225=some true:=by kernel_rfl
@[go_sem] theorem tz225:tz Tryz.prog 225=some [.int .u8 0,.int .u8 0,.int .u8 0,.int .u8 0,.int .u8 0,.int .u8 0,.int .u8 0,.int .u8 0,.int .u8 0,.int .u8 0,.int .u8 0,.int .u8 0,.int .u8 0,.int .u8 0,.int .u8 0,.int .u8 0,.int .u8 0,.int .u8 0,.int .u8 0,.int .u8 0,.int .u8 0,.int .u8 0,.int .u8 0,.int .u8 0,.int .u8 0,.int .u8 0,.int .u8 0,.int .u8 0,.int .u8 0,.int .u8 0,.int .u8 0,.int .u8 0,.int .u8 0,.int .u8 0,.int .u8 0,.int .u8 0,.int .u8 0,.int .u8 0,.int .u8 0,.int .u8 0,.int .u8 0,.int .u8 0,.int .u8 0,.int .u8 0,.int .u8 0,.int .u8 0,.int .u8 0,.int .u8 0,.int .u8 0,.int .u8 0,.int .u8 0,.int .u8 0,.int .u8 0,.int .u8 0,.int .u8 0,.int .u8 0,.int .u8 0,.int .u8 0,.int .u8 0,.int .u8 0,.int .u8 0,.int .u8 0,.int .u8 0,.int .u8 0]:=by kernel_rfl
@[go_sem] theorem tarr225:tarr Tryz.prog 225=some (64,5):=by kernel_rfl
@[go_sem] theorem tsl225:tsl Tryz.prog 225=none:=by kernel_rfl
@[go_sem] theorem tstr225:tstr Tryz.prog 225=false:=by kernel_rfl
@[go_sem] theorem tarr227:tarr Tryz.prog 227=none:=by kernel_rfl
@[go_sem] theorem tsl227:tsl Tryz.prog 227=some 3:=by kernel_rfl
@[go_sem] theorem tn229:tn Tryz.prog 229=some 16:=by kernel_rfl
@[go_sem] theorem ta229:ta Tryz.prog 229=some true:=by kernel_rfl
@[go_sem] theorem tz229:tz Tryz.prog 229=some [.int .u32 0,.int .u32 0,.int .u32 0,.int .u32 0,.int .u32 0,.int .u32 0,.int .u32 0,.int .u32 0,.int .u32 0,.int .u32 0,.int .u32 0,.int .u32 0,.int .u32 0,.int .u32 0,.int .u32 0,.int .u32 0]:=by kernel_rfl
@[go_sem] theorem tpl229:tpl Tryz.prog 229=none:=by kernel_rfl
@[go_sem] theorem tarr229:tarr Tryz.prog 229=some (16,187):=by kernel_rfl
@[go_sem] theorem tsl229:tsl Tryz.prog 229=none:=by kernel_rfl
@[go_sem] theorem tz233:tz Tryz.prog 233=some [.int .i64 0,.int .i64 0,.int .i64 0]:=by kernel_rfl
@[go_sem] theorem tpl233:tpl Tryz.prog 233=none:=by kernel_rfl
@[go_sem] theorem tarr233:tarr Tryz.prog 233=some (3,3):=by kernel_rfl
@[go_sem] theorem tstr233:tstr Tryz.prog 233=false:=by kernel_rfl
@[go_sem] theorem tn234:tn Tryz.prog 234=some 1:=by kernel_rfl
@[go_sem] theorem ta234:ta Tryz.prog 234=some false:=by kernel_rfl
@[go_sem] theorem tint234:tint Tryz.prog 234=some .u64:=by kernel_rfl
@[go_sem] theorem tn236:tn Tryz.prog 236=some 5:=by kernel_rfl
@[go_sem] theorem ta236:ta Tryz.prog 236=some true:=by kernel_rfl
@[go_sem] theorem tz236:tz Tryz.prog 236=some [.int .u64 0,.int .u64 0,.int .u64 0,.int .u64 0,.int .u64 0]:=by kernel_rfl
@[go_sem] theorem tpl236:tpl Tryz.prog 236=none:=by kernel_rfl
@[go_sem] theorem tarr236:tarr Tryz.prog 236=some (5,234):=by kernel_rfl
@[go_sem] theorem tsl236:tsl Tryz.prog 236=none:=by kernel_rfl
@[go_sem] theorem tstr236:tstr Tryz.prog 236=false:=by kernel_rfl
@[go_sem] theorem tz238:tz Tryz.prog 238=some [.int .u8 0,.int .u8 0,.int .u8 0,.int .u8 0,.int .u8 0,.int .u8 0,.int .u8 0,.int .u8 0,.int .u8 0,.int .u8 0,.int .u8 0,.int .u8 0,.int .u8 0,.int .u8 0,.int .u8 0,.int .u8 0,.int .u8 0]:=by kernel_rfl
@[go_sem] theorem tarr238:tarr Tryz.prog 238=some (17,5):=by kernel_rfl
@[go_sem] theorem tsl238:tsl Tryz.prog 238=none:=by kernel_rfl
@[go_sem] theorem tstr238:tstr Tryz.prog 238=false:=by kernel_rfl
@[go_sem] theorem go5:goes Tryz.prog 5=true:=by kernel_rfl
@[go_sem] theorem go6:goes Tryz.prog 6=true:=by kernel_rfl
@[go_sem] theorem go7:goes Tryz.prog 7=true:=by kernel_rfl
@[go_sem] theorem go8:goes Tryz.prog 8=true:=by kernel_rfl
@[go_sem] theorem go12:goes Tryz.prog 12=true:=by kernel_rfl
@[go_sem] theorem go13:goes Tryz.prog 13=true:=by kernel_rfl
@[go_sem] theorem go14:goes Tryz.prog 14=true:=by kernel_rfl
@[go_sem] theorem go15:goes Tryz.prog 15=true:=by kernel_rfl
@[go_sem] theorem go16:goes Tryz.prog 16=true:=by kernel_rfl
@[go_sem] theorem go17:goes Tryz.prog 17=true:=by kernel_rfl
@[go_sem] theorem go18:goes Tryz.prog 18=true:=by kernel_rfl
@[go_sem] theorem go21:goes Tryz.prog 21=true:=by kernel_rfl
@[go_sem] theorem go22:goes Tryz.prog 22=true:=by kernel_rfl
@[go_sem] theorem go23:goes Tryz.prog 23=true:=by kernel_rfl
@[go_sem] theorem go24:goes Tryz.prog 24=true:=by kernel_rfl
@[go_sem] theorem go25:goes Tryz.prog 25=true:=by kernel_rfl
@[go_sem] theorem go26:goes Tryz.prog 26=true:=by kernel_rfl
@[go_sem] theorem go27:goes Tryz.prog 27=true:=by kernel_rfl
@[go_sem] theorem go28:goes Tryz.prog 28=true:=by kernel_rfl
@[go_sem] theorem go29:goes Tryz.prog 29=true:=by kernel_rfl
@[go_sem] theorem go30:goes Tryz.prog 30=true:=by kernel_rfl
@[go_sem] theorem go31:goes Tryz.prog 31=true:=by kernel_rfl
@[go_sem] theorem go32:goes Tryz.prog 32=true:=by kernel_rfl
@[go_sem] theorem go35:goes Tryz.prog 35=true:=by kernel_rfl
@[go_sem] theorem go36:goes Tryz.prog 36=true:=by kernel_rfl
@[go_sem] theorem go37:goes Tryz.prog 37=true:=by kernel_rfl
@[go_sem] theorem go38:goes Tryz.prog 38=true:=by kernel_rfl
@[go_sem] theorem go39:goes Tryz.prog 39=true:=by kernel_rfl
@[go_sem] theorem go40:goes Tryz.prog 40=true:=by kernel_rfl
@[go_sem] theorem go41:goes Tryz.prog 41=true:=by kernel_rfl
@[go_sem] theorem go42:goes Tryz.prog 42=true:=by kernel_rfl
@[go_sem] theorem go43:goes Tryz.prog 43=true:=by kernel_rfl
@[go_sem] theorem go44:goes Tryz.prog 44=true:=by kernel_rfl
@[go_sem] theorem go45:goes Tryz.prog 45=true:=by kernel_rfl
@[go_sem] theorem go46:goes Tryz.prog 46=true:=by kernel_rfl
@[go_sem] theorem go47:goes Tryz.prog 47=true:=by kernel_rfl
@[go_sem] theorem go48:goes Tryz.prog 48=true:=by kernel_rfl
@[go_sem] theorem go52:goes Tryz.prog 52=true:=by kernel_rfl
@[go_sem] theorem go53:goes Tryz.prog 53=true:=by kernel_rfl
@[go_sem] theorem go54:goes Tryz.prog 54=true:=by kernel_rfl
@[go_sem] theorem go55:goes Tryz.prog 55=true:=by kernel_rfl
@[go_sem] theorem go56:goes Tryz.prog 56=true:=by kernel_rfl
@[go_sem] theorem go57:goes Tryz.prog 57=true:=by kernel_rfl
@[go_sem] theorem go58:goes Tryz.prog 58=true:=by kernel_rfl
@[go_sem] theorem go59:goes Tryz.prog 59=true:=by kernel_rfl
@[go_sem] theorem go60:goes Tryz.prog 60=true:=by kernel_rfl
@[go_sem] theorem go61:goes Tryz.prog 61=true:=by kernel_rfl
@[go_sem] theorem go62:goes Tryz.prog 62=true:=by kernel_rfl
@[go_sem] theorem go63:goes Tryz.prog 63=true:=by kernel_rfl
@[go_sem] theorem go64:goes Tryz.prog 64=true:=by kernel_rfl
@[go_sem] theorem go65:goes Tryz.prog 65=true:=by kernel_rfl
@[go_sem] theorem go66:goes Tryz.prog 66=true:=by kernel_rfl
@[go_sem] theorem go67:goes Tryz.prog 67=true:=by kernel_rfl
@[go_sem] theorem go68:goes Tryz.prog 68=true:=by kernel_rfl
@[go_sem] theorem go69:goes Tryz.prog 69=true:=by kernel_rfl
@[go_sem] theorem go70:goes Tryz.prog 70=true:=by kernel_rfl
@[go_sem] theorem go71:goes Tryz.prog 71=true:=by kernel_rfl
@[go_sem] theorem go72:goes Tryz.prog 72=true:=by kernel_rfl
@[go_sem] theorem go73:goes Tryz.prog 73=true:=by kernel_rfl
@[go_sem] theorem go74:goes Tryz.prog 74=true:=by kernel_rfl
@[go_sem] theorem go76:goes Tryz.prog 76=true:=by kernel_rfl
@[go_sem] theorem go78:goes Tryz.prog 78=true:=by kernel_rfl
@[go_sem] theorem go79:goes Tryz.prog 79=true:=by kernel_rfl
@[go_sem] theorem go80:goes Tryz.prog 80=true:=by kernel_rfl
@[go_sem] theorem go81:goes Tryz.prog 81=true:=by kernel_rfl
@[go_sem] theorem go82:goes Tryz.prog 82=true:=by kernel_rfl
@[go_sem] theorem go83:goes Tryz.prog 83=true:=by kernel_rfl
@[go_sem] theorem go84:goes Tryz.prog 84=true:=by kernel_rfl
@[go_sem] theorem go85:goes Tryz.prog 85=true:=by kernel_rfl
@[go_sem] theorem go86:goes Tryz.prog 86=true:=by kernel_rfl
@[go_sem] theorem go87:goes Tryz.prog 87=true:=by kernel_rfl
@[go_sem] theorem go89:goes Tryz.prog 89=true:=by kernel_rfl
@[go_sem] theorem go91:goes Tryz.prog 91=true:=by kernel_rfl
@[go_sem] theorem go92:goes Tryz.prog 92=true:=by kernel_rfl
@[go_sem] theorem go94:goes Tryz.prog 94=true:=by kernel_rfl
@[go_sem] theorem go95:goes Tryz.prog 95=true:=by kernel_rfl
@[go_sem] theorem go98:goes Tryz.prog 98=true:=by kernel_rfl
@[go_sem] theorem go99:goes Tryz.prog 99=true:=by kernel_rfl
@[go_sem] theorem go100:goes Tryz.prog 100=true:=by kernel_rfl
@[go_sem] theorem go101:goes Tryz.prog 101=true:=by kernel_rfl
@[go_sem] theorem go102:goes Tryz.prog 102=true:=by kernel_rfl
@[go_sem] theorem go103:goes Tryz.prog 103=true:=by kernel_rfl
@[go_sem] theorem go104:goes Tryz.prog 104=true:=by kernel_rfl
@[go_sem] theorem go105:goes Tryz.prog 105=true:=by kernel_rfl
@[go_sem] theorem go106:goes Tryz.prog 106=true:=by kernel_rfl
@[go_sem] theorem go107:goes Tryz.prog 107=true:=by kernel_rfl
@[go_sem] theorem go108:goes Tryz.prog 108=true:=by kernel_rfl
@[go_sem] theorem go109:goes Tryz.prog 109=true:=by kernel_rfl
@[go_sem] theorem go110:goes Tryz.prog 110=true:=by kernel_rfl
@[go_sem] theorem go113:goes Tryz.prog 113=true:=by kernel_rfl
@[go_sem] theorem go114:goes Tryz.prog 114=true:=by kernel_rfl
@[go_sem] theorem go115:goes Tryz.prog 115=true:=by kernel_rfl
@[go_sem] theorem go116:goes Tryz.prog 116=true:=by kernel_rfl
@[go_sem] theorem go117:goes Tryz.prog 117=true:=by kernel_rfl
@[go_sem] theorem go118:goes Tryz.prog 118=true:=by kernel_rfl
@[go_sem] theorem go119:goes Tryz.prog 119=true:=by kernel_rfl
@[go_sem] theorem go120:goes Tryz.prog 120=true:=by kernel_rfl
@[go_sem] theorem go122:goes Tryz.prog 122=true:=by kernel_rfl
@[go_sem] theorem go123:goes Tryz.prog 123=true:=by kernel_rfl
@[go_sem] theorem go124:goes Tryz.prog 124=true:=by kernel_rfl
@[go_sem] theorem go125:goes Tryz.prog 125=true:=by kernel_rfl
@[go_sem] theorem go126:goes Tryz.prog 126=true:=by kernel_rfl
@[go_sem] theorem go127:goes Tryz.prog 127=true:=by kernel_rfl
@[go_sem] theorem go128:goes Tryz.prog 128=true:=by kernel_rfl
@[go_sem] theorem go129:goes Tryz.prog 129=true:=by kernel_rfl
@[go_sem] theorem go132:goes Tryz.prog 132=true:=by kernel_rfl
@[go_sem] theorem go133:goes Tryz.prog 133=true:=by kernel_rfl
@[go_sem] theorem go134:goes Tryz.prog 134=true:=by kernel_rfl
@[go_sem] theorem go135:goes Tryz.prog 135=true:=by kernel_rfl
@[go_sem] theorem go136:goes Tryz.prog 136=true:=by kernel_rfl
@[go_sem] theorem go137:goes Tryz.prog 137=true:=by kernel_rfl
@[go_sem] theorem go138:goes Tryz.prog 138=true:=by kernel_rfl
@[go_sem] theorem go140:goes Tryz.prog 140=true:=by kernel_rfl
@[go_sem] theorem go141:goes Tryz.prog 141=true:=by kernel_rfl
@[go_sem] theorem go142:goes Tryz.prog 142=true:=by kernel_rfl
@[go_sem] theorem go144:goes Tryz.prog 144=true:=by kernel_rfl
@[go_sem] theorem go145:goes Tryz.prog 145=true:=by kernel_rfl
@[go_sem] theorem go146:goes Tryz.prog 146=true:=by kernel_rfl
@[go_sem] theorem go147:goes Tryz.prog 147=true:=by kernel_rfl
@[go_sem] theorem go148:goes Tryz.prog 148=true:=by kernel_rfl
def headCodes:List Nat:=[104,97,114,110,101,115,115,32,52,97,102,49,98,50,49,99,54,49,49,52,55,57,100,53,56,49,48,102,100,52,51,97,102,52,48,98,55,50,101,57,53,101,48,49,57,50,48,54,100,54,49,56,54,98,98,49,98,48,57,55,102,102,52,57,56,57,51,48,48,48,98,98,32,99,117,116,32,97,116,32,99,111,110,99,108,97,118,101,47,99,111,110,99,108,97,118,101,108,97,119,46,77,111,111,116,82,101,102,117,115,101,115,32,99,111,110,99,108,97,118,101,47,99,111,110,99,108,97,118,101,116,111,112,46,84,111,112,65,103,114,101,101]
theorem wordsT:∃ rest,Go.behindMainWord (Go.wordsSigns Tryz.prog.initOrder.toList) = "cut".toList :: rest:=
 cut_words (L:=headCodes.map Char.ofNat) (by kernel_rfl) (by kernel_rfl)
theorem makeT:Tryz.prog.make=some .cut:=wordsT.elim fun _ h=>cut_make h
theorem liftsT:Tryz.prog.liftsFinal=false:=wordsT.elim fun _ h=>cut_lifts h
theorem enterT:Tryz.prog.mayEnter=true:=wordsT.elim fun _ h=>cut_enter h (by kernel_rfl) (by kernel_rfl) (by kernel_rfl)
theorem ownKnobT:Go.ownKnob Tryz.prog.godebug=none:=by kernel_rfl
theorem laidOutT:Go.laidOutB Tryz.prog=true:=by kernel_rfl
theorem mixed:Tryz.prog.follows .mixedOrders=true:=by kernel_rfl
end Go.Proofs.YtnhbpmoeaodmnaaGreatDoor

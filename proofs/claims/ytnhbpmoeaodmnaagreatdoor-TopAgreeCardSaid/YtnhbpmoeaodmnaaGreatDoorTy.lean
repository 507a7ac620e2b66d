/- The tables of this seat's program, in V2's words. Printed by gen_ty.py. -/
import Derived.Test.YtnhbpmoeaodmnaaGreatDoorRows
import Derived.Test.YtnhbpmoeaodmnaaGreatDoorV9
import Derived.Test.YtnhbpmoeaodmnaaGreatDoorW3
import Derived.KernelRfl
namespace Go.Proofs.YtnhbpmoeaodmnaaGreatDoor
open Go.V
set_option maxRecDepth 100000
@[go_sem] theorem tn1:tn Tryz.prog 1=some 1:=by kernel_rfl
@[go_sem] theorem tb1:tb Tryz.prog 1=some 8:=by kernel_rfl
@[go_sem] theorem ta1:ta Tryz.prog 1=some false:=by kernel_rfl
@[go_sem] theorem tz1:tz Tryz.prog 1=some [.nilFunc]:=by kernel_rfl
@[go_sem] theorem tb2:tb Tryz.prog 2=some 8:=by kernel_rfl
@[go_sem] theorem tn3:tn Tryz.prog 3=some 1:=by kernel_rfl
@[go_sem] theorem tb3:tb Tryz.prog 3=some 8:=by kernel_rfl
@[go_sem] theorem ta3:ta Tryz.prog 3=some false:=by kernel_rfl
@[go_sem] theorem tz3:tz Tryz.prog 3=some [.int .i64 0]:=by kernel_rfl
@[go_sem] theorem ZHt:Zhn Tryz.prog 3=some .i64:=by kernel_rfl
@[go_sem] theorem tn4:tn Tryz.prog 4=some 1:=by kernel_rfl
@[go_sem] theorem tb4:tb Tryz.prog 4=some 1:=by kernel_rfl
@[go_sem] theorem ta4:ta Tryz.prog 4=some false:=by kernel_rfl
@[go_sem] theorem tn5:tn Tryz.prog 5=some 1:=by kernel_rfl
@[go_sem] theorem tb5:tb Tryz.prog 5=some 1:=by kernel_rfl
@[go_sem] theorem ta5:ta Tryz.prog 5=some false:=by kernel_rfl
@[go_sem] theorem tz5:tz Tryz.prog 5=some [.int .u8 0]:=by kernel_rfl
@[go_sem] theorem ZHu:Zhn Tryz.prog 5=some .u8:=by kernel_rfl
@[go_sem] theorem ZDJ:YB Tryz.prog 22=none:=by kernel_rfl
@[go_sem] theorem ZAl:Jj Tryz.prog 22=some 46:=by kernel_rfl
@[go_sem] theorem ZDK:Q3 Tryz.prog 22=false:=by kernel_rfl
@[go_sem] theorem ZDL:YB Tryz.prog 24=some (5,4):=by kernel_rfl
@[go_sem] theorem ZHv:Jj Tryz.prog 24=none:=by kernel_rfl
@[go_sem] theorem ZJs:tn Tryz.prog 25=some 1:=by kernel_rfl
@[go_sem] theorem ZJt:ta Tryz.prog 25=some false:=by kernel_rfl
@[go_sem] theorem ZDM:YB Tryz.prog 25=none:=by kernel_rfl
@[go_sem] theorem ZAm:Jj Tryz.prog 25=some 41:=by kernel_rfl
@[go_sem] theorem ZDN:YB Tryz.prog 26=some (5,3):=by kernel_rfl
@[go_sem] theorem ZHw:Jj Tryz.prog 26=none:=by kernel_rfl
@[go_sem] theorem ZJu:tn Tryz.prog 27=some 1:=by kernel_rfl
@[go_sem] theorem ZJv:ta Tryz.prog 27=some false:=by kernel_rfl
@[go_sem] theorem ZAn:Jj Tryz.prog 27=some 116:=by kernel_rfl
@[go_sem] theorem ZDO:tn Tryz.prog 29=some 13:=by kernel_rfl
@[go_sem] theorem ZDP:tb Tryz.prog 29=some 104:=by kernel_rfl
@[go_sem] theorem ZJw:ta Tryz.prog 29=some true:=by kernel_rfl
@[go_sem] theorem ZDQ:tz Tryz.prog 29=some [.int .i64 0,.bool false,.bool false,.bool false,.bool false,.bool false,.slice none 0 0,.int .i64 0,.int .i64 0,.int .i64 0,.int .i64 0,.int .i64 0,.slice none 0 0]:=by kernel_rfl
@[go_sem] theorem ZDR:tf Tryz.prog 29 0=some 0:=by kernel_rfl
@[go_sem] theorem ZDS:tf Tryz.prog 29 1=some 1:=by kernel_rfl
@[go_sem] theorem ZDT:tf Tryz.prog 29 2=some 6:=by kernel_rfl
@[go_sem] theorem ZDU:tf Tryz.prog 29 3=some 7:=by kernel_rfl
@[go_sem] theorem ZDV:tf Tryz.prog 29 4=some 12:=by kernel_rfl
@[go_sem] theorem ZHx:tpl Tryz.prog 29=some [(0,1),(1,5),(6,1),(7,5),(12,1)]:=by kernel_rfl
@[go_sem] theorem ZDW:YB Tryz.prog 29=none:=by kernel_rfl
@[go_sem] theorem ZDX:YB Tryz.prog 36=none:=by kernel_rfl
@[go_sem] theorem ZHy:Jj Tryz.prog 36=some 83:=by kernel_rfl
@[go_sem] theorem ZDY:YB Tryz.prog 37=none:=by kernel_rfl
@[go_sem] theorem ZAo:Jj Tryz.prog 37=some 29:=by kernel_rfl
@[go_sem] theorem ZDZ:tn Tryz.prog 41=some 1:=by kernel_rfl
@[go_sem] theorem ZD0:tb Tryz.prog 41=some 24:=by kernel_rfl
@[go_sem] theorem ZJx:ta Tryz.prog 41=some false:=by kernel_rfl
@[go_sem] theorem ZD1:tz Tryz.prog 41=some [.slice none 0 0]:=by kernel_rfl
@[go_sem] theorem ZD2:YB Tryz.prog 41=none:=by kernel_rfl
@[go_sem] theorem Zkn:Jj Tryz.prog 41=some 77:=by kernel_rfl
@[go_sem] theorem ZD3:Q3 Tryz.prog 41=false:=by kernel_rfl
@[go_sem] theorem ZJy:tn Tryz.prog 44=some 1:=by kernel_rfl
@[go_sem] theorem ZJz:ta Tryz.prog 44=some false:=by kernel_rfl
@[go_sem] theorem ZD4:YB Tryz.prog 44=none:=by kernel_rfl
@[go_sem] theorem Yx:Jj Tryz.prog 44=some 5:=by kernel_rfl
@[go_sem] theorem ZD5:Q3 Tryz.prog 44=false:=by kernel_rfl
@[go_sem] theorem ZD6:tn Tryz.prog 46=some 5:=by kernel_rfl
@[go_sem] theorem ZD7:tb Tryz.prog 46=some 56:=by kernel_rfl
@[go_sem] theorem ZJA:ta Tryz.prog 46=some true:=by kernel_rfl
@[go_sem] theorem ZD8:tz Tryz.prog 46=some [.int .i64 0,.int .i64 0,.int .i64 0,.int .i64 0,.slice none 0 0]:=by kernel_rfl
@[go_sem] theorem ZD9:tf Tryz.prog 46 0=some 0:=by kernel_rfl
@[go_sem] theorem ZEa:tf Tryz.prog 46 1=some 1:=by kernel_rfl
@[go_sem] theorem ZEb:tf Tryz.prog 46 2=some 2:=by kernel_rfl
@[go_sem] theorem ZEc:tf Tryz.prog 46 3=some 3:=by kernel_rfl
@[go_sem] theorem ZEd:tf Tryz.prog 46 4=some 4:=by kernel_rfl
@[go_sem] theorem ZHz:tpl Tryz.prog 46=some [(0,1),(1,1),(2,1),(3,1),(4,1)]:=by kernel_rfl
@[go_sem] theorem ZEe:YB Tryz.prog 46=none:=by kernel_rfl
@[go_sem] theorem ZJB:tn Tryz.prog 49=some 1:=by kernel_rfl
@[go_sem] theorem ZJC:ta Tryz.prog 49=some false:=by kernel_rfl
@[go_sem] theorem ZJD:tn Tryz.prog 52=some 1:=by kernel_rfl
@[go_sem] theorem ZJE:ta Tryz.prog 52=some false:=by kernel_rfl
@[go_sem] theorem ZEf:YB Tryz.prog 52=none:=by kernel_rfl
@[go_sem] theorem ZAp:Jj Tryz.prog 52=some 56:=by kernel_rfl
@[go_sem] theorem ZJF:tn Tryz.prog 53=some 1:=by kernel_rfl
@[go_sem] theorem ZJG:ta Tryz.prog 53=some false:=by kernel_rfl
@[go_sem] theorem ZEg:YB Tryz.prog 53=none:=by kernel_rfl
@[go_sem] theorem Zok:Jj Tryz.prog 53=some 98:=by kernel_rfl
@[go_sem] theorem ZEh:Q3 Tryz.prog 53=false:=by kernel_rfl
@[go_sem] theorem ZJH:tz Tryz.prog 55=some [.slice none 0 0,.slice none 0 0,.int .i64 0,.bool false,.bool false,.bool false,.bool false,.bool false,.slice none 0 0,.int .i64 0,.int .i64 0,.int .i64 0,.int .i64 0,.int .i64 0,.slice none 0 0]:=by kernel_rfl
@[go_sem] theorem ZEi:tf Tryz.prog 55 0=some 0:=by kernel_rfl
@[go_sem] theorem ZEj:tf Tryz.prog 55 1=some 1:=by kernel_rfl
@[go_sem] theorem ZEk:tf Tryz.prog 55 2=some 2:=by kernel_rfl
@[go_sem] theorem ZHA:tpl Tryz.prog 55=some [(0,1),(1,1),(2,13)]:=by kernel_rfl
@[go_sem] theorem ZEl:YB Tryz.prog 55=none:=by kernel_rfl
@[go_sem] theorem ZEm:tn Tryz.prog 56=some 1:=by kernel_rfl
@[go_sem] theorem ZEn:tb Tryz.prog 56=some 8:=by kernel_rfl
@[go_sem] theorem ZJI:ta Tryz.prog 56=some false:=by kernel_rfl
@[go_sem] theorem ZEo:tz Tryz.prog 56=some [.pointer none]:=by kernel_rfl
@[go_sem] theorem ZJJ:tn Tryz.prog 58=some 2:=by kernel_rfl
@[go_sem] theorem ZJK:ta Tryz.prog 58=some true:=by kernel_rfl
@[go_sem] theorem ZJL:tz Tryz.prog 58=some [.slice none 0 0,.int .i64 0]:=by kernel_rfl
@[go_sem] theorem ZEp:tf Tryz.prog 58 0=some 0:=by kernel_rfl
@[go_sem] theorem ZEq:tf Tryz.prog 58 1=some 1:=by kernel_rfl
@[go_sem] theorem ZHB:tpl Tryz.prog 58=some [(0,1),(1,1)]:=by kernel_rfl
@[go_sem] theorem ZEr:YB Tryz.prog 58=none:=by kernel_rfl
@[go_sem] theorem ZJM:tn Tryz.prog 60=some 2:=by kernel_rfl
@[go_sem] theorem ZJN:ta Tryz.prog 60=some true:=by kernel_rfl
@[go_sem] theorem ZJO:tz Tryz.prog 60=some [.int .i64 0,.int .i64 0]:=by kernel_rfl
@[go_sem] theorem ZEs:tf Tryz.prog 60 0=some 0:=by kernel_rfl
@[go_sem] theorem ZEt:tf Tryz.prog 60 1=some 1:=by kernel_rfl
@[go_sem] theorem ZHC:tpl Tryz.prog 60=some [(0,1),(1,1)]:=by kernel_rfl
@[go_sem] theorem ZHD:teg Tryz.prog 60=false:=by kernel_rfl
@[go_sem] theorem ZCk:flat Tryz.prog 6 60=some [some .i64,some .i64]:=by kernel_rfl
@[go_sem] theorem ZEu:YB Tryz.prog 60=none:=by kernel_rfl
@[go_sem] theorem ZEv:tn Tryz.prog 61=some 1:=by kernel_rfl
@[go_sem] theorem ZEw:tb Tryz.prog 61=some 24:=by kernel_rfl
@[go_sem] theorem ZJP:ta Tryz.prog 61=some false:=by kernel_rfl
@[go_sem] theorem ZEx:tz Tryz.prog 61=some [.slice none 0 0]:=by kernel_rfl
@[go_sem] theorem ZEy:YB Tryz.prog 61=none:=by kernel_rfl
@[go_sem] theorem ZeV:Jj Tryz.prog 61=some 96:=by kernel_rfl
@[go_sem] theorem ZEz:Q3 Tryz.prog 61=false:=by kernel_rfl
@[go_sem] theorem ZJQ:tn Tryz.prog 63=some 3:=by kernel_rfl
@[go_sem] theorem ZJR:ta Tryz.prog 63=some true:=by kernel_rfl
@[go_sem] theorem ZJS:tz Tryz.prog 63=some [.int .i64 0,.int .i64 0,.slice none 0 0]:=by kernel_rfl
@[go_sem] theorem ZEA:tf Tryz.prog 63 0=some 0:=by kernel_rfl
@[go_sem] theorem ZEB:tf Tryz.prog 63 1=some 2:=by kernel_rfl
@[go_sem] theorem ZHE:tpl Tryz.prog 63=some [(0,2),(2,1)]:=by kernel_rfl
@[go_sem] theorem ZEC:YB Tryz.prog 63=none:=by kernel_rfl
@[go_sem] theorem ZJT:tn Tryz.prog 64=some 1:=by kernel_rfl
@[go_sem] theorem ZJU:ta Tryz.prog 64=some false:=by kernel_rfl
@[go_sem] theorem ZJV:tn Tryz.prog 65=some 1:=by kernel_rfl
@[go_sem] theorem ZJW:ta Tryz.prog 65=some false:=by kernel_rfl
@[go_sem] theorem ZJX:tn Tryz.prog 66=some 8:=by kernel_rfl
@[go_sem] theorem ZJY:ta Tryz.prog 66=some true:=by kernel_rfl
@[go_sem] theorem ZED:YB Tryz.prog 66=some (8,3):=by kernel_rfl
@[go_sem] theorem ZHF:Jj Tryz.prog 66=none:=by kernel_rfl
@[go_sem] theorem ZEE:Q3 Tryz.prog 66=false:=by kernel_rfl
@[go_sem] theorem ZJZ:tn Tryz.prog 68=some 2:=by kernel_rfl
@[go_sem] theorem ZJ0:ta Tryz.prog 68=some true:=by kernel_rfl
@[go_sem] theorem ZJ1:tz Tryz.prog 68=some [.int .i64 0,.int .i64 0]:=by kernel_rfl
@[go_sem] theorem ZHG:tpl Tryz.prog 68=some [(0,1),(1,1)]:=by kernel_rfl
@[go_sem] theorem ZHH:teg Tryz.prog 68=false:=by kernel_rfl
@[go_sem] theorem ZCl:flat Tryz.prog 6 68=some [some .i64,some .i64]:=by kernel_rfl
@[go_sem] theorem ZEF:YB Tryz.prog 68=none:=by kernel_rfl
@[go_sem] theorem ZEG:YB Tryz.prog 69=some (8,68):=by kernel_rfl
@[go_sem] theorem ZHI:Jj Tryz.prog 69=none:=by kernel_rfl
@[go_sem] theorem ZJ2:tn Tryz.prog 70=some 8:=by kernel_rfl
@[go_sem] theorem ZJ3:ta Tryz.prog 70=some true:=by kernel_rfl
@[go_sem] theorem ZJ4:tz Tryz.prog 70=some [.bool false,.bool false,.bool false,.bool false,.bool false,.bool false,.bool false,.bool false]:=by kernel_rfl
@[go_sem] theorem ZHJ:tpl Tryz.prog 70=none:=by kernel_rfl
@[go_sem] theorem ZEH:YB Tryz.prog 70=some (8,4):=by kernel_rfl
@[go_sem] theorem ZHK:Jj Tryz.prog 70=none:=by kernel_rfl
@[go_sem] theorem ZEI:Q3 Tryz.prog 70=false:=by kernel_rfl
@[go_sem] theorem ZJ5:tn Tryz.prog 72=some 40:=by kernel_rfl
@[go_sem] theorem ZJ6:ta Tryz.prog 72=some true:=by kernel_rfl
@[go_sem] theorem ZJ7:tz Tryz.prog 72=some [.int .i64 0,.int .i64 0,.int .i64 0,.int .i64 0,.int .i64 0,.int .i64 0,.int .i64 0,.int .i64 0,.int .i64 0,.int .i64 0,.int .i64 0,.int .i64 0,.int .i64 0,.int .i64 0,.int .i64 0,.int .i64 0,.int .i64 0,.int .i64 0,.int .i64 0,.int .i64 0,.int .i64 0,.int .i64 0,.int .i64 0,.int .i64 0,.int .i64 0,.int .i64 0,.int .i64 0,.int .i64 0,.int .i64 0,.int .i64 0,.int .i64 0,.int .i64 0,.bool false,.bool false,.bool false,.bool false,.bool false,.bool false,.bool false,.bool false]:=by kernel_rfl
@[go_sem] theorem ZEJ:tf Tryz.prog 72 0=some 0:=by kernel_rfl
@[go_sem] theorem ZEK:tf Tryz.prog 72 1=some 8:=by kernel_rfl
@[go_sem] theorem ZEL:tf Tryz.prog 72 2=some 16:=by kernel_rfl
@[go_sem] theorem ZEM:tf Tryz.prog 72 3=some 32:=by kernel_rfl
@[go_sem] theorem ZHL:tpl Tryz.prog 72=some [(0,8),(8,8),(16,16),(32,8)]:=by kernel_rfl
@[go_sem] theorem ZEN:YB Tryz.prog 72=none:=by kernel_rfl
@[go_sem] theorem ZJ8:tz Tryz.prog 74=some [.int .i64 0,.bool false,.slice none 0 0,.int .i64 0,.int .i64 0,.int .i64 0,.slice none 0 0,.int .i64 0,.int .i64 0,.pointer none,.map none,.slice none 0 0,.int .i64 0,.int .i64 0,.int .i64 0,.int .i64 0,.int .i64 0,.int .i64 0,.int .i64 0,.int .i64 0,.int .i64 0,.int .i64 0,.int .i64 0,.int .i64 0,.int .i64 0,.int .i64 0,.int .i64 0,.int .i64 0,.int .i64 0,.int .i64 0,.int .i64 0,.int .i64 0,.int .i64 0,.int .i64 0,.int .i64 0,.int .i64 0,.int .i64 0,.int .i64 0,.int .i64 0,.int .i64 0,.int .i64 0,.int .i64 0,.int .i64 0,.int .i64 0,.bool false,.bool false,.bool false,.bool false,.bool false,.bool false,.bool false,.bool false,.slice none 0 0,.slice none 0 0,.slice none 0 0,.nilFunc,.int .i64 0]:=by kernel_rfl
@[go_sem] theorem ZEO:tf Tryz.prog 74 0=some 0:=by kernel_rfl
@[go_sem] theorem ZEP:tf Tryz.prog 74 1=some 1:=by kernel_rfl
@[go_sem] theorem ZEQ:tf Tryz.prog 74 2=some 2:=by kernel_rfl
@[go_sem] theorem ZER:tf Tryz.prog 74 3=some 4:=by kernel_rfl
@[go_sem] theorem ZES:tf Tryz.prog 74 4=some 7:=by kernel_rfl
@[go_sem] theorem ZET:tf Tryz.prog 74 5=some 9:=by kernel_rfl
@[go_sem] theorem ZEU:tf Tryz.prog 74 6=some 10:=by kernel_rfl
@[go_sem] theorem ZEV:tf Tryz.prog 74 7=some 11:=by kernel_rfl
@[go_sem] theorem ZEW:tf Tryz.prog 74 8=some 12:=by kernel_rfl
@[go_sem] theorem ZEX:tf Tryz.prog 74 9=some 52:=by kernel_rfl
@[go_sem] theorem ZCm:tf Tryz.prog 74 10=some 53:=by kernel_rfl
@[go_sem] theorem ZCn:tf Tryz.prog 74 11=some 54:=by kernel_rfl
@[go_sem] theorem ZCo:tf Tryz.prog 74 12=some 55:=by kernel_rfl
@[go_sem] theorem ZCp:tf Tryz.prog 74 13=some 56:=by kernel_rfl
@[go_sem] theorem ZHM:tpl Tryz.prog 74=some [(0,1),(1,1),(2,2),(4,3),(7,2),(9,1),(10,1),(11,1),(12,40),(52,1),(53,1),(54,1),(55,1),(56,1)]:=by kernel_rfl
@[go_sem] theorem ZEY:YB Tryz.prog 74=none:=by kernel_rfl
@[go_sem] theorem ZxW:tn Tryz.prog 77=some 5:=by kernel_rfl
@[go_sem] theorem ZAq:tb Tryz.prog 77=some 40:=by kernel_rfl
@[go_sem] theorem ZJ9:ta Tryz.prog 77=some true:=by kernel_rfl
@[go_sem] theorem Zsu:tz Tryz.prog 77=some [.int .i64 0,.int .i64 0,.int .i64 0,.int .i64 0,.int .i64 0]:=by kernel_rfl
@[go_sem] theorem ZEZ:tf Tryz.prog 77 0=some 0:=by kernel_rfl
@[go_sem] theorem ZE0:tf Tryz.prog 77 1=some 1:=by kernel_rfl
@[go_sem] theorem ZE1:tf Tryz.prog 77 2=some 2:=by kernel_rfl
@[go_sem] theorem ZE2:tf Tryz.prog 77 3=some 3:=by kernel_rfl
@[go_sem] theorem ZE3:tf Tryz.prog 77 4=some 4:=by kernel_rfl
@[go_sem] theorem ZHN:tpl Tryz.prog 77=some [(0,1),(1,1),(2,1),(3,1),(4,1)]:=by kernel_rfl
@[go_sem] theorem ZHO:teg Tryz.prog 77=false:=by kernel_rfl
@[go_sem] theorem ZCq:flat Tryz.prog 6 77=some [some .i64,some .i64,some .i64,some .i64,some .i64]:=by kernel_rfl
@[go_sem] theorem ZE4:YB Tryz.prog 77=none:=by kernel_rfl
@[go_sem] theorem ZKa:tn Tryz.prog 83=some 5:=by kernel_rfl
@[go_sem] theorem ZKb:ta Tryz.prog 83=some true:=by kernel_rfl
@[go_sem] theorem ZE5:tf Tryz.prog 83 0=some 0:=by kernel_rfl
@[go_sem] theorem ZE6:tf Tryz.prog 83 1=some 1:=by kernel_rfl
@[go_sem] theorem ZE7:tf Tryz.prog 83 2=some 2:=by kernel_rfl
@[go_sem] theorem ZE8:tf Tryz.prog 83 3=some 3:=by kernel_rfl
@[go_sem] theorem ZE9:tf Tryz.prog 83 4=some 4:=by kernel_rfl
@[go_sem] theorem ZFa:YB Tryz.prog 84=none:=by kernel_rfl
@[go_sem] theorem ZHP:Jj Tryz.prog 84=some 90:=by kernel_rfl
@[go_sem] theorem ZKc:tn Tryz.prog 88=some 1:=by kernel_rfl
@[go_sem] theorem ZKd:ta Tryz.prog 88=some false:=by kernel_rfl
@[go_sem] theorem ZKe:tn Tryz.prog 90=some 2:=by kernel_rfl
@[go_sem] theorem ZKf:ta Tryz.prog 90=some true:=by kernel_rfl
@[go_sem] theorem ZKg:tz Tryz.prog 90=some [.pointer none,.int .i64 0]:=by kernel_rfl
@[go_sem] theorem ZFb:tf Tryz.prog 90 0=some 0:=by kernel_rfl
@[go_sem] theorem ZFc:tf Tryz.prog 90 1=some 1:=by kernel_rfl
@[go_sem] theorem ZHQ:tpl Tryz.prog 90=some [(0,1),(1,1)]:=by kernel_rfl
@[go_sem] theorem ZFd:YB Tryz.prog 90=none:=by kernel_rfl
@[go_sem] theorem Zi8:tn Tryz.prog 96=some 8:=by kernel_rfl
@[go_sem] theorem Zvk:tb Tryz.prog 96=some 64:=by kernel_rfl
@[go_sem] theorem ZKh:ta Tryz.prog 96=some true:=by kernel_rfl
@[go_sem] theorem Zvl:tz Tryz.prog 96=some [.int .i64 0,.int .i64 0,.int .i64 0,.int .i64 0,.int .i64 0,.int .i64 0,.int .i64 0,.int .i64 0]:=by kernel_rfl
@[go_sem] theorem ZFe:tf Tryz.prog 96 0=some 0:=by kernel_rfl
@[go_sem] theorem ZFf:tf Tryz.prog 96 1=some 1:=by kernel_rfl
@[go_sem] theorem ZFg:tf Tryz.prog 96 2=some 3:=by kernel_rfl
@[go_sem] theorem ZHR:tpl Tryz.prog 96=some [(0,1),(1,2),(3,5)]:=by kernel_rfl
@[go_sem] theorem ZHS:teg Tryz.prog 96=false:=by kernel_rfl
@[go_sem] theorem ZCr:flat Tryz.prog 6 96=some [some .i64,some .i64,some .i64,some .i64,some .i64,some .i64,some .i64,some .i64]:=by kernel_rfl
@[go_sem] theorem ZFh:YB Tryz.prog 96=none:=by kernel_rfl
@[go_sem] theorem ZxX:tn Tryz.prog 98=some 14:=by kernel_rfl
@[go_sem] theorem ZAr:tb Tryz.prog 98=some 128:=by kernel_rfl
@[go_sem] theorem ZKi:ta Tryz.prog 98=some true:=by kernel_rfl
@[go_sem] theorem Zvm:tz Tryz.prog 98=some [.int .i64 0,.int .i64 0,.int .i64 0,.int .i64 0,.int .i64 0,.int .i64 0,.int .i64 0,.int .i64 0,.int .i64 0,.int .i64 0,.int .i64 0,.int .i64 0,.int .i64 0,.slice none 0 0]:=by kernel_rfl
@[go_sem] theorem ZFi:tf Tryz.prog 98 0=some 0:=by kernel_rfl
@[go_sem] theorem ZFj:tf Tryz.prog 98 1=some 1:=by kernel_rfl
@[go_sem] theorem ZFk:tf Tryz.prog 98 2=some 2:=by kernel_rfl
@[go_sem] theorem ZFl:tf Tryz.prog 98 3=some 3:=by kernel_rfl
@[go_sem] theorem ZFm:tf Tryz.prog 98 4=some 5:=by kernel_rfl
@[go_sem] theorem ZFn:tf Tryz.prog 98 5=some 13:=by kernel_rfl
@[go_sem] theorem ZHT:tpl Tryz.prog 98=some [(0,1),(1,1),(2,1),(3,2),(5,8),(13,1)]:=by kernel_rfl
@[go_sem] theorem ZFo:YB Tryz.prog 98=none:=by kernel_rfl
@[go_sem] theorem ZAs:tn Tryz.prog 116=some 5:=by kernel_rfl
@[go_sem] theorem ZAt:tb Tryz.prog 116=some 40:=by kernel_rfl
@[go_sem] theorem ZAu:tz Tryz.prog 116=some [.int .i64 0,.int .i64 0,.int .i64 0,.int .i64 0,.int .i64 0]:=by kernel_rfl
@[go_sem] theorem ZFp:tpl Tryz.prog 116=some [(0,1),(1,1),(2,1),(3,2)]:=by kernel_rfl
@[go_sem] theorem ZCs:YB Tryz.prog 116=none:=by kernel_rfl
@[go_sem] theorem ZHU:tn Tryz.prog 119=some 1:=by kernel_rfl
@[go_sem] theorem ZHV:ta Tryz.prog 119=some false:=by kernel_rfl
@[go_sem] theorem ZHW:tn Tryz.prog 120=some 1:=by kernel_rfl
@[go_sem] theorem ZHX:ta Tryz.prog 120=some false:=by kernel_rfl
@[go_sem] theorem ZHY:tz Tryz.prog 122=some [.int .i64 0,.int .i64 0,.map none,.bool false,.map none,.map none]:=by kernel_rfl
@[go_sem] theorem ZCt:tf Tryz.prog 122 0=some 0:=by kernel_rfl
@[go_sem] theorem ZCu:tf Tryz.prog 122 1=some 2:=by kernel_rfl
@[go_sem] theorem ZCv:tf Tryz.prog 122 2=some 3:=by kernel_rfl
@[go_sem] theorem ZCw:tf Tryz.prog 122 3=some 4:=by kernel_rfl
@[go_sem] theorem ZCx:tf Tryz.prog 122 4=some 5:=by kernel_rfl
@[go_sem] theorem ZFq:tpl Tryz.prog 122=some [(0,2),(2,1),(3,1),(4,1),(5,1)]:=by kernel_rfl
@[go_sem] theorem ZCy:YB Tryz.prog 122=none:=by kernel_rfl
@[go_sem] theorem ZHZ:tz Tryz.prog 132=some [.int .i64 0,.int .i64 0,.int .i64 0,.int .i64 0,.int .i64 0]:=by kernel_rfl
@[go_sem] theorem ZCz:tf Tryz.prog 132 0=some 0:=by kernel_rfl
@[go_sem] theorem ZCA:tf Tryz.prog 132 1=some 1:=by kernel_rfl
@[go_sem] theorem ZCB:tf Tryz.prog 132 2=some 2:=by kernel_rfl
@[go_sem] theorem ZCC:tf Tryz.prog 132 3=some 3:=by kernel_rfl
@[go_sem] theorem ZCD:tf Tryz.prog 132 4=some 4:=by kernel_rfl
@[go_sem] theorem ZFr:tpl Tryz.prog 132=some [(0,1),(1,1),(2,1),(3,1),(4,1)]:=by kernel_rfl
@[go_sem] theorem ZCE:YB Tryz.prog 132=none:=by kernel_rfl
@[go_sem] theorem ZH0:tn Tryz.prog 134=some 3:=by kernel_rfl
@[go_sem] theorem ZH1:ta Tryz.prog 134=some true:=by kernel_rfl
@[go_sem] theorem ZH2:tz Tryz.prog 134=some [.int .i64 0,.int .i64 0,.int .i64 0]:=by kernel_rfl
@[go_sem] theorem ZCF:tf Tryz.prog 134 0=some 0:=by kernel_rfl
@[go_sem] theorem ZCG:tf Tryz.prog 134 1=some 1:=by kernel_rfl
@[go_sem] theorem ZCH:tf Tryz.prog 134 2=some 2:=by kernel_rfl
@[go_sem] theorem ZFs:tpl Tryz.prog 134=some [(0,1),(1,1),(2,1)]:=by kernel_rfl
@[go_sem] theorem ZCI:YB Tryz.prog 134=none:=by kernel_rfl
@[go_sem] theorem ZH3:tn Tryz.prog 138=some 11:=by kernel_rfl
@[go_sem] theorem ZH4:ta Tryz.prog 138=some true:=by kernel_rfl
@[go_sem] theorem ZH5:tz Tryz.prog 138=some [.slice none 0 0,.int .i64 0,.int .i64 0,.bool false,.bool false,.bool false,.bool false,.bool false,.bool false,.bool false,.bool false]:=by kernel_rfl
@[go_sem] theorem ZCJ:tf Tryz.prog 138 0=some 0:=by kernel_rfl
@[go_sem] theorem ZCK:tf Tryz.prog 138 1=some 1:=by kernel_rfl
@[go_sem] theorem ZCL:tf Tryz.prog 138 2=some 2:=by kernel_rfl
@[go_sem] theorem ZCM:tf Tryz.prog 138 3=some 3:=by kernel_rfl
@[go_sem] theorem ZFt:tpl Tryz.prog 138=some [(0,1),(1,1),(2,1),(3,8)]:=by kernel_rfl
@[go_sem] theorem ZCN:YB Tryz.prog 138=none:=by kernel_rfl
@[go_sem] theorem ZCO:Zhn Tryz.prog 164=some .u64:=by kernel_rfl
@[go_sem] theorem ZH6:tn Tryz.prog 170=some 5:=by kernel_rfl
@[go_sem] theorem ZH7:ta Tryz.prog 170=some true:=by kernel_rfl
@[go_sem] theorem ZH8:tz Tryz.prog 170=some [.pointer none,.pointer none,.pointer none,.pointer none,.pointer none]:=by kernel_rfl
@[go_sem] theorem ZFu:tpl Tryz.prog 170=none:=by kernel_rfl
@[go_sem] theorem ZCP:YB Tryz.prog 170=some (5,88):=by kernel_rfl
@[go_sem] theorem ZCQ:Q3 Tryz.prog 170=false:=by kernel_rfl
@[go_sem] theorem ZH9:tz Tryz.prog 173=some [.int .i64 0,.int .i64 0,.int .i64 0,.int .i64 0]:=by kernel_rfl
@[go_sem] theorem ZFv:tpl Tryz.prog 173=none:=by kernel_rfl
@[go_sem] theorem ZCR:YB Tryz.prog 173=some (4,3):=by kernel_rfl
@[go_sem] theorem ZFw:Jj Tryz.prog 173=none:=by kernel_rfl
@[go_sem] theorem ZCS:Q3 Tryz.prog 173=false:=by kernel_rfl
@[go_sem] theorem ZIa:tn Tryz.prog 176=some 0:=by kernel_rfl
@[go_sem] theorem ZIb:tz Tryz.prog 176=some []:=by kernel_rfl
@[go_sem] theorem ZFx:tpl Tryz.prog 176=some []:=by kernel_rfl
@[go_sem] theorem ZCT:YB Tryz.prog 176=none:=by kernel_rfl
@[go_sem] theorem ZIc:tn Tryz.prog 187=some 1:=by kernel_rfl
@[go_sem] theorem ZId:ta Tryz.prog 187=some false:=by kernel_rfl
@[go_sem] theorem ZCU:Zhn Tryz.prog 187=some .u32:=by kernel_rfl
@[go_sem] theorem ZIe:tn Tryz.prog 189=some 8:=by kernel_rfl
@[go_sem] theorem ZIf:ta Tryz.prog 189=some true:=by kernel_rfl
@[go_sem] theorem ZIg:tz Tryz.prog 189=some [.int .u32 0,.int .u32 0,.int .u32 0,.int .u32 0,.int .u32 0,.int .u32 0,.int .u32 0,.int .u32 0]:=by kernel_rfl
@[go_sem] theorem ZFy:tpl Tryz.prog 189=none:=by kernel_rfl
@[go_sem] theorem ZCV:YB Tryz.prog 189=some (8,187):=by kernel_rfl
@[go_sem] theorem ZFz:Jj Tryz.prog 189=none:=by kernel_rfl
@[go_sem] theorem ZCW:Q3 Tryz.prog 189=false:=by kernel_rfl
@[go_sem] theorem ZCX:YB Tryz.prog 213=none:=by kernel_rfl
@[go_sem] theorem ZxY:Jj Tryz.prog 213=some 61:=by kernel_rfl
@[go_sem] theorem ZIh:tz Tryz.prog 217=some [.int .u32 0,.int .u32 0,.int .u32 0,.int .u32 0,.int .u32 0,.int .u32 0,.int .u32 0,.int .u32 0,.int .u32 0,.int .u32 0,.int .u32 0,.int .u32 0,.int .u32 0,.int .u32 0,.int .u32 0,.int .u32 0,.int .u32 0,.int .u32 0,.int .u32 0,.int .u32 0,.int .u32 0,.int .u32 0,.int .u32 0,.int .u32 0,.int .u32 0,.int .u32 0,.int .u32 0,.int .u32 0,.int .u32 0,.int .u32 0,.int .u32 0,.int .u32 0,.int .u32 0,.int .u32 0,.int .u32 0,.int .u32 0,.int .u32 0,.int .u32 0,.int .u32 0,.int .u32 0,.int .u32 0,.int .u32 0,.int .u32 0,.int .u32 0,.int .u32 0,.int .u32 0,.int .u32 0,.int .u32 0,.int .u32 0,.int .u32 0,.int .u32 0,.int .u32 0,.int .u32 0,.int .u32 0,.int .u32 0,.int .u32 0,.int .u32 0,.int .u32 0,.int .u32 0,.int .u32 0,.int .u32 0,.int .u32 0,.int .u32 0,.int .u32 0]:=by kernel_rfl
@[go_sem] theorem ZCY:YB Tryz.prog 217=some (64,187):=by kernel_rfl
@[go_sem] theorem ZFA:Jj Tryz.prog 217=none:=by kernel_rfl
@[go_sem] theorem ZIi:tn Tryz.prog 225=some 64:=by kernel_rfl
@[go_sem] theorem ZIj:ta Tryz.prog 225=some true:=by kernel_rfl
@[go_sem] theorem ZIk:tz Tryz.prog 225=some [.int .u8 0,.int .u8 0,.int .u8 0,.int .u8 0,.int .u8 0,.int .u8 0,.int .u8 0,.int .u8 0,.int .u8 0,.int .u8 0,.int .u8 0,.int .u8 0,.int .u8 0,.int .u8 0,.int .u8 0,.int .u8 0,.int .u8 0,.int .u8 0,.int .u8 0,.int .u8 0,.int .u8 0,.int .u8 0,.int .u8 0,.int .u8 0,.int .u8 0,.int .u8 0,.int .u8 0,.int .u8 0,.int .u8 0,.int .u8 0,.int .u8 0,.int .u8 0,.int .u8 0,.int .u8 0,.int .u8 0,.int .u8 0,.int .u8 0,.int .u8 0,.int .u8 0,.int .u8 0,.int .u8 0,.int .u8 0,.int .u8 0,.int .u8 0,.int .u8 0,.int .u8 0,.int .u8 0,.int .u8 0,.int .u8 0,.int .u8 0,.int .u8 0,.int .u8 0,.int .u8 0,.int .u8 0,.int .u8 0,.int .u8 0,.int .u8 0,.int .u8 0,.int .u8 0,.int .u8 0,.int .u8 0,.int .u8 0,.int .u8 0,.int .u8 0]:=by kernel_rfl
@[go_sem] theorem ZCZ:YB Tryz.prog 225=some (64,5):=by kernel_rfl
@[go_sem] theorem ZFB:Jj Tryz.prog 225=none:=by kernel_rfl
@[go_sem] theorem ZC0:Q3 Tryz.prog 225=false:=by kernel_rfl
@[go_sem] theorem ZC1:YB Tryz.prog 227=none:=by kernel_rfl
@[go_sem] theorem ZFC:Jj Tryz.prog 227=some 3:=by kernel_rfl
@[go_sem] theorem ZIl:tn Tryz.prog 229=some 16:=by kernel_rfl
@[go_sem] theorem ZIm:ta Tryz.prog 229=some true:=by kernel_rfl
@[go_sem] theorem ZIn:tz Tryz.prog 229=some [.int .u32 0,.int .u32 0,.int .u32 0,.int .u32 0,.int .u32 0,.int .u32 0,.int .u32 0,.int .u32 0,.int .u32 0,.int .u32 0,.int .u32 0,.int .u32 0,.int .u32 0,.int .u32 0,.int .u32 0,.int .u32 0]:=by kernel_rfl
@[go_sem] theorem ZFD:tpl Tryz.prog 229=none:=by kernel_rfl
@[go_sem] theorem ZC2:YB Tryz.prog 229=some (16,187):=by kernel_rfl
@[go_sem] theorem ZFE:Jj Tryz.prog 229=none:=by kernel_rfl
@[go_sem] theorem ZIo:tz Tryz.prog 233=some [.int .i64 0,.int .i64 0,.int .i64 0]:=by kernel_rfl
@[go_sem] theorem ZFF:tpl Tryz.prog 233=none:=by kernel_rfl
@[go_sem] theorem ZC3:YB Tryz.prog 233=some (3,3):=by kernel_rfl
@[go_sem] theorem ZC4:Q3 Tryz.prog 233=false:=by kernel_rfl
@[go_sem] theorem ZIp:tn Tryz.prog 234=some 1:=by kernel_rfl
@[go_sem] theorem ZIq:ta Tryz.prog 234=some false:=by kernel_rfl
@[go_sem] theorem ZC5:Zhn Tryz.prog 234=some .u64:=by kernel_rfl
@[go_sem] theorem ZIr:tn Tryz.prog 236=some 5:=by kernel_rfl
@[go_sem] theorem ZIs:ta Tryz.prog 236=some true:=by kernel_rfl
@[go_sem] theorem ZIt:tz Tryz.prog 236=some [.int .u64 0,.int .u64 0,.int .u64 0,.int .u64 0,.int .u64 0]:=by kernel_rfl
@[go_sem] theorem ZFG:tpl Tryz.prog 236=none:=by kernel_rfl
@[go_sem] theorem ZC6:YB Tryz.prog 236=some (5,234):=by kernel_rfl
@[go_sem] theorem ZFH:Jj Tryz.prog 236=none:=by kernel_rfl
@[go_sem] theorem ZC7:Q3 Tryz.prog 236=false:=by kernel_rfl
@[go_sem] theorem ZIu:tz Tryz.prog 238=some [.int .u8 0,.int .u8 0,.int .u8 0,.int .u8 0,.int .u8 0,.int .u8 0,.int .u8 0,.int .u8 0,.int .u8 0,.int .u8 0,.int .u8 0,.int .u8 0,.int .u8 0,.int .u8 0,.int .u8 0,.int .u8 0,.int .u8 0]:=by kernel_rfl
@[go_sem] theorem ZC8:YB Tryz.prog 238=some (17,5):=by kernel_rfl
@[go_sem] theorem ZFI:Jj Tryz.prog 238=none:=by kernel_rfl
@[go_sem] theorem ZC9:Q3 Tryz.prog 238=false:=by kernel_rfl
@[go_sem] theorem go6:goes Tryz.prog 6=true:=by kernel_rfl
@[go_sem] theorem go9:goes Tryz.prog 9=true:=by kernel_rfl
@[go_sem] theorem ZKj:goes Tryz.prog 10=true:=by kernel_rfl
@[go_sem] theorem ZKk:goes Tryz.prog 11=true:=by kernel_rfl
@[go_sem] theorem ZKl:goes Tryz.prog 13=true:=by kernel_rfl
@[go_sem] theorem ZKm:goes Tryz.prog 14=true:=by kernel_rfl
@[go_sem] theorem ZKn:goes Tryz.prog 15=true:=by kernel_rfl
@[go_sem] theorem ZKo:goes Tryz.prog 16=true:=by kernel_rfl
@[go_sem] theorem ZKp:goes Tryz.prog 19=true:=by kernel_rfl
@[go_sem] theorem ZKq:goes Tryz.prog 20=true:=by kernel_rfl
@[go_sem] theorem ZKr:goes Tryz.prog 21=true:=by kernel_rfl
@[go_sem] theorem ZKs:goes Tryz.prog 22=true:=by kernel_rfl
@[go_sem] theorem ZKt:goes Tryz.prog 23=true:=by kernel_rfl
@[go_sem] theorem ZKu:goes Tryz.prog 24=true:=by kernel_rfl
@[go_sem] theorem ZKv:goes Tryz.prog 25=true:=by kernel_rfl
@[go_sem] theorem ZKw:goes Tryz.prog 26=true:=by kernel_rfl
@[go_sem] theorem ZKx:goes Tryz.prog 27=true:=by kernel_rfl
@[go_sem] theorem ZKy:goes Tryz.prog 28=true:=by kernel_rfl
@[go_sem] theorem ZKz:goes Tryz.prog 29=true:=by kernel_rfl
@[go_sem] theorem ZKA:goes Tryz.prog 30=true:=by kernel_rfl
@[go_sem] theorem ZKB:goes Tryz.prog 33=true:=by kernel_rfl
@[go_sem] theorem ZKC:goes Tryz.prog 34=true:=by kernel_rfl
@[go_sem] theorem ZKD:goes Tryz.prog 35=true:=by kernel_rfl
@[go_sem] theorem ZKE:goes Tryz.prog 36=true:=by kernel_rfl
@[go_sem] theorem ZKF:goes Tryz.prog 37=true:=by kernel_rfl
@[go_sem] theorem ZKG:goes Tryz.prog 38=true:=by kernel_rfl
@[go_sem] theorem ZKH:goes Tryz.prog 39=true:=by kernel_rfl
@[go_sem] theorem ZKI:goes Tryz.prog 40=true:=by kernel_rfl
@[go_sem] theorem ZKJ:goes Tryz.prog 41=true:=by kernel_rfl
@[go_sem] theorem ZKK:goes Tryz.prog 42=true:=by kernel_rfl
@[go_sem] theorem ZKL:goes Tryz.prog 43=true:=by kernel_rfl
@[go_sem] theorem ZKM:goes Tryz.prog 44=true:=by kernel_rfl
@[go_sem] theorem ZKN:goes Tryz.prog 45=true:=by kernel_rfl
@[go_sem] theorem ZKO:goes Tryz.prog 46=true:=by kernel_rfl
@[go_sem] theorem ZKP:goes Tryz.prog 47=true:=by kernel_rfl
@[go_sem] theorem ZKQ:goes Tryz.prog 48=true:=by kernel_rfl
@[go_sem] theorem ZKR:goes Tryz.prog 49=true:=by kernel_rfl
@[go_sem] theorem ZKS:goes Tryz.prog 50=true:=by kernel_rfl
@[go_sem] theorem ZKT:goes Tryz.prog 51=true:=by kernel_rfl
@[go_sem] theorem ZKU:goes Tryz.prog 52=true:=by kernel_rfl
@[go_sem] theorem ZKV:goes Tryz.prog 53=true:=by kernel_rfl
@[go_sem] theorem ZKW:goes Tryz.prog 54=true:=by kernel_rfl
@[go_sem] theorem ZKX:goes Tryz.prog 55=true:=by kernel_rfl
@[go_sem] theorem ZKY:goes Tryz.prog 56=true:=by kernel_rfl
@[go_sem] theorem ZKZ:goes Tryz.prog 57=true:=by kernel_rfl
@[go_sem] theorem ZK0:goes Tryz.prog 58=true:=by kernel_rfl
@[go_sem] theorem ZK1:goes Tryz.prog 59=true:=by kernel_rfl
@[go_sem] theorem ZK2:goes Tryz.prog 60=true:=by kernel_rfl
@[go_sem] theorem ZK3:goes Tryz.prog 61=true:=by kernel_rfl
@[go_sem] theorem ZK4:goes Tryz.prog 62=true:=by kernel_rfl
@[go_sem] theorem ZK5:goes Tryz.prog 63=true:=by kernel_rfl
@[go_sem] theorem ZK6:goes Tryz.prog 64=true:=by kernel_rfl
@[go_sem] theorem ZK7:goes Tryz.prog 65=true:=by kernel_rfl
@[go_sem] theorem ZK8:goes Tryz.prog 66=true:=by kernel_rfl
@[go_sem] theorem ZK9:goes Tryz.prog 67=true:=by kernel_rfl
@[go_sem] theorem ZLa:goes Tryz.prog 68=true:=by kernel_rfl
@[go_sem] theorem ZLb:goes Tryz.prog 69=true:=by kernel_rfl
@[go_sem] theorem ZLc:goes Tryz.prog 70=true:=by kernel_rfl
@[go_sem] theorem ZLd:goes Tryz.prog 71=true:=by kernel_rfl
@[go_sem] theorem ZLe:goes Tryz.prog 72=true:=by kernel_rfl
@[go_sem] theorem ZLf:goes Tryz.prog 73=true:=by kernel_rfl
@[go_sem] theorem ZLg:goes Tryz.prog 74=true:=by kernel_rfl
@[go_sem] theorem ZLh:goes Tryz.prog 75=true:=by kernel_rfl
@[go_sem] theorem ZLi:goes Tryz.prog 76=true:=by kernel_rfl
@[go_sem] theorem ZLj:goes Tryz.prog 77=true:=by kernel_rfl
@[go_sem] theorem ZLk:goes Tryz.prog 78=true:=by kernel_rfl
@[go_sem] theorem ZLl:goes Tryz.prog 79=true:=by kernel_rfl
@[go_sem] theorem ZLm:goes Tryz.prog 80=true:=by kernel_rfl
@[go_sem] theorem ZLn:goes Tryz.prog 81=true:=by kernel_rfl
@[go_sem] theorem ZLo:goes Tryz.prog 82=true:=by kernel_rfl
@[go_sem] theorem ZLp:goes Tryz.prog 83=true:=by kernel_rfl
@[go_sem] theorem ZLq:goes Tryz.prog 84=true:=by kernel_rfl
@[go_sem] theorem ZLr:goes Tryz.prog 85=true:=by kernel_rfl
@[go_sem] theorem ZLs:goes Tryz.prog 86=true:=by kernel_rfl
@[go_sem] theorem ZLt:goes Tryz.prog 87=true:=by kernel_rfl
@[go_sem] theorem ZLu:goes Tryz.prog 89=true:=by kernel_rfl
@[go_sem] theorem ZLv:goes Tryz.prog 91=true:=by kernel_rfl
@[go_sem] theorem ZLw:goes Tryz.prog 92=true:=by kernel_rfl
@[go_sem] theorem ZLx:goes Tryz.prog 94=true:=by kernel_rfl
@[go_sem] theorem ZLy:goes Tryz.prog 95=true:=by kernel_rfl
@[go_sem] theorem ZLz:goes Tryz.prog 98=true:=by kernel_rfl
@[go_sem] theorem ZLA:goes Tryz.prog 99=true:=by kernel_rfl
@[go_sem] theorem ZIv:goes Tryz.prog 100=true:=by kernel_rfl
@[go_sem] theorem ZIw:goes Tryz.prog 101=true:=by kernel_rfl
@[go_sem] theorem ZIx:goes Tryz.prog 102=true:=by kernel_rfl
@[go_sem] theorem ZIy:goes Tryz.prog 103=true:=by kernel_rfl
@[go_sem] theorem ZIz:goes Tryz.prog 104=true:=by kernel_rfl
@[go_sem] theorem ZIA:goes Tryz.prog 105=true:=by kernel_rfl
@[go_sem] theorem ZIB:goes Tryz.prog 106=true:=by kernel_rfl
@[go_sem] theorem ZIC:goes Tryz.prog 107=true:=by kernel_rfl
@[go_sem] theorem ZID:goes Tryz.prog 108=true:=by kernel_rfl
@[go_sem] theorem ZIE:goes Tryz.prog 109=true:=by kernel_rfl
@[go_sem] theorem ZIF:goes Tryz.prog 110=true:=by kernel_rfl
@[go_sem] theorem ZIG:goes Tryz.prog 111=true:=by kernel_rfl
@[go_sem] theorem ZIH:goes Tryz.prog 112=true:=by kernel_rfl
@[go_sem] theorem ZII:goes Tryz.prog 113=true:=by kernel_rfl
@[go_sem] theorem ZIJ:goes Tryz.prog 114=true:=by kernel_rfl
@[go_sem] theorem ZIK:goes Tryz.prog 115=true:=by kernel_rfl
@[go_sem] theorem ZIL:goes Tryz.prog 116=true:=by kernel_rfl
@[go_sem] theorem ZIM:goes Tryz.prog 117=true:=by kernel_rfl
@[go_sem] theorem ZIN:goes Tryz.prog 118=true:=by kernel_rfl
@[go_sem] theorem ZIO:goes Tryz.prog 119=true:=by kernel_rfl
@[go_sem] theorem ZIP:goes Tryz.prog 120=true:=by kernel_rfl
@[go_sem] theorem ZIQ:goes Tryz.prog 122=true:=by kernel_rfl
@[go_sem] theorem ZIR:goes Tryz.prog 123=true:=by kernel_rfl
@[go_sem] theorem ZIS:goes Tryz.prog 124=true:=by kernel_rfl
@[go_sem] theorem ZIT:goes Tryz.prog 125=true:=by kernel_rfl
@[go_sem] theorem ZIU:goes Tryz.prog 126=true:=by kernel_rfl
@[go_sem] theorem ZIV:goes Tryz.prog 127=true:=by kernel_rfl
@[go_sem] theorem ZIW:goes Tryz.prog 128=true:=by kernel_rfl
@[go_sem] theorem ZIX:goes Tryz.prog 129=true:=by kernel_rfl
@[go_sem] theorem ZIY:goes Tryz.prog 132=true:=by kernel_rfl
@[go_sem] theorem ZIZ:goes Tryz.prog 133=true:=by kernel_rfl
@[go_sem] theorem ZI0:goes Tryz.prog 134=true:=by kernel_rfl
@[go_sem] theorem ZI1:goes Tryz.prog 135=true:=by kernel_rfl
@[go_sem] theorem ZI2:goes Tryz.prog 136=true:=by kernel_rfl
@[go_sem] theorem ZI3:goes Tryz.prog 137=true:=by kernel_rfl
@[go_sem] theorem ZI4:goes Tryz.prog 138=true:=by kernel_rfl
@[go_sem] theorem ZI5:goes Tryz.prog 140=true:=by kernel_rfl
@[go_sem] theorem ZI6:goes Tryz.prog 141=true:=by kernel_rfl
@[go_sem] theorem ZI7:goes Tryz.prog 142=true:=by kernel_rfl
@[go_sem] theorem ZI8:goes Tryz.prog 144=true:=by kernel_rfl
@[go_sem] theorem ZI9:goes Tryz.prog 145=true:=by kernel_rfl
@[go_sem] theorem ZJa:goes Tryz.prog 146=true:=by kernel_rfl
@[go_sem] theorem ZJb:goes Tryz.prog 147=true:=by kernel_rfl
@[go_sem] theorem ZJc:goes Tryz.prog 148=true:=by kernel_rfl
def Zh8:List Nat:=[104,97,114,110,101,115,115,32,52,97,102,49,98,50,49,99,54,49,49,52,55,57,100,53,56,49,48,102,100,52,51,97,102,52,48,98,55,50,101,57,53,101,48,49,57,50,48,54,100,54,49,56,54,98,98,49,98,48,57,55,102,102,52,57,56,57,51,48,48,48,98,98,32,99,117,116,32,97,116,32,99,111,110,99,108,97,118,101,47,99,111,110,99,108,97,118,101,108,97,119,46,77,111,111,116,82,101,102,117,115,101,115,32,99,111,110,99,108,97,118,101,47,99,111,110,99,108,97,118,101,116,111,112,46,84,111,112,65,103,114,101,101]
theorem ZmO:∃rest,Go.behindMainWord (Go.wordsSigns Tryz.prog.initOrder.toList) = "cut".toList :: rest:=
 ZpD (L:=Zh8.map Char.ofNat) (by kernel_rfl) (by kernel_rfl)
theorem ZAv:Tryz.prog.make=some .cut:=ZmO.elim fun _ h=>Zsb h
theorem ZxZ:Tryz.prog.liftsFinal=false:=ZmO.elim fun _ h=>ZpB h
theorem Zx0:Tryz.prog.mayEnter=true:=ZmO.elim fun _ h=>ZpC h (by kernel_rfl) (by kernel_rfl) (by kernel_rfl)
theorem Zsv:Go.ownKnob Tryz.prog.godebug=none:=by kernel_rfl
theorem Zsw:Go.laidOutB Tryz.prog=true:=by kernel_rfl
theorem mixed:Tryz.prog.follows .mixedOrders=true:=by kernel_rfl
end Go.Proofs.YtnhbpmoeaodmnaaGreatDoor

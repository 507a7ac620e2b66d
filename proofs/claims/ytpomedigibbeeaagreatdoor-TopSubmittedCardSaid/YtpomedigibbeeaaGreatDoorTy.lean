/- The tables of this seat's program, in V2's words. Printed by gen_ty.py. -/
import Derived.Test.YtpomedigibbeeaaGreatDoorRows
import Derived.Test.YtpomedigibbeeaaGreatDoorV9
import Derived.Test.YtpomedigibbeeaaGreatDoorW3
import Derived.KernelRfl
namespace Go.Proofs.YtpomedigibbeeaaGreatDoor
open Go.V
set_option maxRecDepth 100000
@[go_sem] theorem tn1:tn Tryz.prog 1=some 1:=by kernel_rfl
@[go_sem] theorem tb1:tb Tryz.prog 1=some 8:=by kernel_rfl
@[go_sem] theorem ta1:ta Tryz.prog 1=some false:=by kernel_rfl
@[go_sem] theorem tz1:tz Tryz.prog 1=some [.nilFunc]:=by kernel_rfl
@[go_sem] theorem BO:tb Tryz.prog 2=some 8:=by kernel_rfl
@[go_sem] theorem tn3:tn Tryz.prog 3=some 1:=by kernel_rfl
@[go_sem] theorem sR:tb Tryz.prog 3=some 8:=by kernel_rfl
@[go_sem] theorem ta3:ta Tryz.prog 3=some false:=by kernel_rfl
@[go_sem] theorem tz3:tz Tryz.prog 3=some [.int .i64 0]:=by kernel_rfl
@[go_sem] theorem ZpZ:Il Tryz.prog 3=some .i64:=by kernel_rfl
@[go_sem] theorem tn4:tn Tryz.prog 4=some 1:=by kernel_rfl
@[go_sem] theorem tb4:tb Tryz.prog 4=some 1:=by kernel_rfl
@[go_sem] theorem ta4:ta Tryz.prog 4=some false:=by kernel_rfl
@[go_sem] theorem WH:tn Tryz.prog 5=some 1:=by kernel_rfl
@[go_sem] theorem Vz:tb Tryz.prog 5=some 1:=by kernel_rfl
@[go_sem] theorem ta5:ta Tryz.prog 5=some false:=by kernel_rfl
@[go_sem] theorem VA:tz Tryz.prog 5=some [.int .u8 0]:=by kernel_rfl
@[go_sem] theorem Zp0:Il Tryz.prog 5=some .u8:=by kernel_rfl
@[go_sem] theorem Zkj:YI Tryz.prog 22=none:=by kernel_rfl
@[go_sem] theorem Zp1:Jw Tryz.prog 22=some 69:=by kernel_rfl
@[go_sem] theorem Zkk:YI Tryz.prog 23=none:=by kernel_rfl
@[go_sem] theorem mf:Jw Tryz.prog 23=some 36:=by kernel_rfl
@[go_sem] theorem Zkl:YI Tryz.prog 28=some (5,4):=by kernel_rfl
@[go_sem] theorem Zp2:Jw Tryz.prog 28=none:=by kernel_rfl
@[go_sem] theorem ZuR:tn Tryz.prog 29=some 1:=by kernel_rfl
@[go_sem] theorem ZuS:ta Tryz.prog 29=some false:=by kernel_rfl
@[go_sem] theorem Zkm:YI Tryz.prog 29=none:=by kernel_rfl
@[go_sem] theorem ZdL:Jw Tryz.prog 29=some 37:=by kernel_rfl
@[go_sem] theorem Zkn:YI Tryz.prog 30=some (5,3):=by kernel_rfl
@[go_sem] theorem Zp3:Jw Tryz.prog 30=none:=by kernel_rfl
@[go_sem] theorem ZuT:tn Tryz.prog 31=some 1:=by kernel_rfl
@[go_sem] theorem ZuU:ta Tryz.prog 31=some false:=by kernel_rfl
@[go_sem] theorem ZdM:Jw Tryz.prog 31=some 42:=by kernel_rfl
@[go_sem] theorem ZuV:tn Tryz.prog 33=some 13:=by kernel_rfl
@[go_sem] theorem ZuW:ta Tryz.prog 33=some true:=by kernel_rfl
@[go_sem] theorem ZuX:tz Tryz.prog 33=some [.int .i64 0,.bool false,.bool false,.bool false,.bool false,.bool false,.slice none 0 0,.int .i64 0,.int .i64 0,.int .i64 0,.int .i64 0,.int .i64 0,.slice none 0 0]:=by kernel_rfl
@[go_sem] theorem Zko:tf Tryz.prog 33 0=some 0:=by kernel_rfl
@[go_sem] theorem Zkp:tf Tryz.prog 33 1=some 1:=by kernel_rfl
@[go_sem] theorem Zkq:tf Tryz.prog 33 2=some 6:=by kernel_rfl
@[go_sem] theorem Zkr:tf Tryz.prog 33 3=some 7:=by kernel_rfl
@[go_sem] theorem Zks:tf Tryz.prog 33 4=some 12:=by kernel_rfl
@[go_sem] theorem Zp4:Rw Tryz.prog 33=some [(0,1),(1,5),(6,1),(7,5),(12,1)]:=by kernel_rfl
@[go_sem] theorem Zkt:YI Tryz.prog 33=none:=by kernel_rfl
@[go_sem] theorem ZuY:tn Tryz.prog 34=some 1:=by kernel_rfl
@[go_sem] theorem ZuZ:ta Tryz.prog 34=some false:=by kernel_rfl
@[go_sem] theorem Zku:YI Tryz.prog 34=none:=by kernel_rfl
@[go_sem] theorem YC:Jw Tryz.prog 34=some 5:=by kernel_rfl
@[go_sem] theorem Zkv:Us Tryz.prog 34=false:=by kernel_rfl
@[go_sem] theorem zC:tn Tryz.prog 36=some 5:=by kernel_rfl
@[go_sem] theorem zD:tb Tryz.prog 36=some 56:=by kernel_rfl
@[go_sem] theorem Zu0:ta Tryz.prog 36=some true:=by kernel_rfl
@[go_sem] theorem zE:tz Tryz.prog 36=some [.int .i64 0,.int .i64 0,.int .i64 0,.int .i64 0,.slice none 0 0]:=by kernel_rfl
@[go_sem] theorem Zkw:tf Tryz.prog 36 0=some 0:=by kernel_rfl
@[go_sem] theorem Zkx:tf Tryz.prog 36 1=some 1:=by kernel_rfl
@[go_sem] theorem Zky:tf Tryz.prog 36 2=some 2:=by kernel_rfl
@[go_sem] theorem Zkz:tf Tryz.prog 36 3=some 3:=by kernel_rfl
@[go_sem] theorem ZkA:tf Tryz.prog 36 4=some 4:=by kernel_rfl
@[go_sem] theorem Zp5:Rw Tryz.prog 36=some [(0,1),(1,1),(2,1),(3,1),(4,1)]:=by kernel_rfl
@[go_sem] theorem ZkB:YI Tryz.prog 36=none:=by kernel_rfl
@[go_sem] theorem ZkC:tn Tryz.prog 37=some 1:=by kernel_rfl
@[go_sem] theorem ZkD:tb Tryz.prog 37=some 24:=by kernel_rfl
@[go_sem] theorem Zu1:ta Tryz.prog 37=some false:=by kernel_rfl
@[go_sem] theorem ZkE:tz Tryz.prog 37=some [.slice none 0 0]:=by kernel_rfl
@[go_sem] theorem ZkF:YI Tryz.prog 37=none:=by kernel_rfl
@[go_sem] theorem EB:Jw Tryz.prog 37=some 49:=by kernel_rfl
@[go_sem] theorem ZkG:Us Tryz.prog 37=false:=by kernel_rfl
@[go_sem] theorem Zu2:tn Tryz.prog 40=some 2:=by kernel_rfl
@[go_sem] theorem Zu3:ta Tryz.prog 40=some true:=by kernel_rfl
@[go_sem] theorem Zu4:tz Tryz.prog 40=some [.int .i64 0,.int .i64 0]:=by kernel_rfl
@[go_sem] theorem Zp6:Rw Tryz.prog 40=some [(0,1),(1,1)]:=by kernel_rfl
@[go_sem] theorem Zp7:wI Tryz.prog 40=false:=by kernel_rfl
@[go_sem] theorem ZgZ:flat Tryz.prog 6 40=some [some .i64,some .i64]:=by kernel_rfl
@[go_sem] theorem ZkH:YI Tryz.prog 40=none:=by kernel_rfl
@[go_sem] theorem ZkI:tn Tryz.prog 42=some 5:=by kernel_rfl
@[go_sem] theorem ZkJ:tb Tryz.prog 42=some 40:=by kernel_rfl
@[go_sem] theorem ZkK:tz Tryz.prog 42=some [.int .i64 0,.int .i64 0,.int .i64 0,.int .i64 0,.int .i64 0]:=by kernel_rfl
@[go_sem] theorem Zp8:Rw Tryz.prog 42=some [(0,1),(1,1),(2,1),(3,2)]:=by kernel_rfl
@[go_sem] theorem ZkL:YI Tryz.prog 42=none:=by kernel_rfl
@[go_sem] theorem zF:tn Tryz.prog 49=some 5:=by kernel_rfl
@[go_sem] theorem ZdN:tb Tryz.prog 49=some 40:=by kernel_rfl
@[go_sem] theorem Zu5:ta Tryz.prog 49=some true:=by kernel_rfl
@[go_sem] theorem mg:tz Tryz.prog 49=some [.int .i64 0,.int .i64 0,.int .i64 0,.int .i64 0,.int .i64 0]:=by kernel_rfl
@[go_sem] theorem ZkM:tf Tryz.prog 49 0=some 0:=by kernel_rfl
@[go_sem] theorem ZkN:tf Tryz.prog 49 1=some 1:=by kernel_rfl
@[go_sem] theorem ZkO:tf Tryz.prog 49 2=some 2:=by kernel_rfl
@[go_sem] theorem ZkP:tf Tryz.prog 49 3=some 3:=by kernel_rfl
@[go_sem] theorem ZkQ:tf Tryz.prog 49 4=some 4:=by kernel_rfl
@[go_sem] theorem Zp9:Rw Tryz.prog 49=some [(0,1),(1,1),(2,1),(3,1),(4,1)]:=by kernel_rfl
@[go_sem] theorem Zqa:wI Tryz.prog 49=false:=by kernel_rfl
@[go_sem] theorem Zg0:flat Tryz.prog 6 49=some [some .i64,some .i64,some .i64,some .i64,some .i64]:=by kernel_rfl
@[go_sem] theorem ZkR:YI Tryz.prog 49=none:=by kernel_rfl
@[go_sem] theorem Zu6:tn Tryz.prog 58=some 8:=by kernel_rfl
@[go_sem] theorem Zu7:ta Tryz.prog 58=some true:=by kernel_rfl
@[go_sem] theorem ZkS:YI Tryz.prog 58=some (8,3):=by kernel_rfl
@[go_sem] theorem Zqb:Jw Tryz.prog 58=none:=by kernel_rfl
@[go_sem] theorem ZkT:Us Tryz.prog 58=false:=by kernel_rfl
@[go_sem] theorem ZkU:YI Tryz.prog 59=some (8,40):=by kernel_rfl
@[go_sem] theorem Zqc:Jw Tryz.prog 59=none:=by kernel_rfl
@[go_sem] theorem Zu8:tn Tryz.prog 60=some 8:=by kernel_rfl
@[go_sem] theorem Zu9:ta Tryz.prog 60=some true:=by kernel_rfl
@[go_sem] theorem Zva:tz Tryz.prog 60=some [.bool false,.bool false,.bool false,.bool false,.bool false,.bool false,.bool false,.bool false]:=by kernel_rfl
@[go_sem] theorem Zqd:Rw Tryz.prog 60=none:=by kernel_rfl
@[go_sem] theorem ZkV:YI Tryz.prog 60=some (8,4):=by kernel_rfl
@[go_sem] theorem Zqe:Jw Tryz.prog 60=none:=by kernel_rfl
@[go_sem] theorem ZkW:Us Tryz.prog 60=false:=by kernel_rfl
@[go_sem] theorem Zvb:tn Tryz.prog 62=some 40:=by kernel_rfl
@[go_sem] theorem Zvc:ta Tryz.prog 62=some true:=by kernel_rfl
@[go_sem] theorem Zvd:tz Tryz.prog 62=some [.int .i64 0,.int .i64 0,.int .i64 0,.int .i64 0,.int .i64 0,.int .i64 0,.int .i64 0,.int .i64 0,.int .i64 0,.int .i64 0,.int .i64 0,.int .i64 0,.int .i64 0,.int .i64 0,.int .i64 0,.int .i64 0,.int .i64 0,.int .i64 0,.int .i64 0,.int .i64 0,.int .i64 0,.int .i64 0,.int .i64 0,.int .i64 0,.int .i64 0,.int .i64 0,.int .i64 0,.int .i64 0,.int .i64 0,.int .i64 0,.int .i64 0,.int .i64 0,.bool false,.bool false,.bool false,.bool false,.bool false,.bool false,.bool false,.bool false]:=by kernel_rfl
@[go_sem] theorem ZkX:tf Tryz.prog 62 0=some 0:=by kernel_rfl
@[go_sem] theorem ZkY:tf Tryz.prog 62 1=some 8:=by kernel_rfl
@[go_sem] theorem ZkZ:tf Tryz.prog 62 2=some 16:=by kernel_rfl
@[go_sem] theorem Zk0:tf Tryz.prog 62 3=some 32:=by kernel_rfl
@[go_sem] theorem Zqf:Rw Tryz.prog 62=some [(0,8),(8,8),(16,16),(32,8)]:=by kernel_rfl
@[go_sem] theorem Zk1:YI Tryz.prog 62=none:=by kernel_rfl
@[go_sem] theorem Zve:tn Tryz.prog 69=some 5:=by kernel_rfl
@[go_sem] theorem Zvf:ta Tryz.prog 69=some true:=by kernel_rfl
@[go_sem] theorem Zk2:tf Tryz.prog 69 0=some 0:=by kernel_rfl
@[go_sem] theorem Zk3:tf Tryz.prog 69 1=some 1:=by kernel_rfl
@[go_sem] theorem Zk4:tf Tryz.prog 69 2=some 2:=by kernel_rfl
@[go_sem] theorem Zk5:tf Tryz.prog 69 3=some 3:=by kernel_rfl
@[go_sem] theorem Zk6:tf Tryz.prog 69 4=some 4:=by kernel_rfl
@[go_sem] theorem Zvg:tn Tryz.prog 75=some 11:=by kernel_rfl
@[go_sem] theorem Zvh:ta Tryz.prog 75=some true:=by kernel_rfl
@[go_sem] theorem Zvi:tz Tryz.prog 75=some [.slice none 0 0,.int .i64 0,.int .i64 0,.bool false,.bool false,.bool false,.bool false,.bool false,.bool false,.bool false,.bool false]:=by kernel_rfl
@[go_sem] theorem Zk7:tf Tryz.prog 75 0=some 0:=by kernel_rfl
@[go_sem] theorem Zk8:tf Tryz.prog 75 1=some 1:=by kernel_rfl
@[go_sem] theorem Zk9:tf Tryz.prog 75 2=some 2:=by kernel_rfl
@[go_sem] theorem Zla:tf Tryz.prog 75 3=some 3:=by kernel_rfl
@[go_sem] theorem Zqg:Rw Tryz.prog 75=some [(0,1),(1,1),(2,1),(3,8)]:=by kernel_rfl
@[go_sem] theorem Zlb:YI Tryz.prog 75=none:=by kernel_rfl
@[go_sem] theorem Zvj:tn Tryz.prog 79=some 3:=by kernel_rfl
@[go_sem] theorem Zvk:ta Tryz.prog 79=some true:=by kernel_rfl
@[go_sem] theorem Zvl:tz Tryz.prog 79=some [.int .i64 0,.int .i64 0,.int .i64 0]:=by kernel_rfl
@[go_sem] theorem Zlc:tf Tryz.prog 79 0=some 0:=by kernel_rfl
@[go_sem] theorem Zld:tf Tryz.prog 79 1=some 1:=by kernel_rfl
@[go_sem] theorem Zle:tf Tryz.prog 79 2=some 2:=by kernel_rfl
@[go_sem] theorem Zqh:Rw Tryz.prog 79=some [(0,1),(1,1),(2,1)]:=by kernel_rfl
@[go_sem] theorem Zlf:YI Tryz.prog 79=none:=by kernel_rfl
@[go_sem] theorem Zvm:tn Tryz.prog 91=some 1:=by kernel_rfl
@[go_sem] theorem Zvn:ta Tryz.prog 91=some false:=by kernel_rfl
@[go_sem] theorem Zvo:tn Tryz.prog 94=some 1:=by kernel_rfl
@[go_sem] theorem Zvp:ta Tryz.prog 94=some false:=by kernel_rfl
@[go_sem] theorem Zlg:YI Tryz.prog 94=none:=by kernel_rfl
@[go_sem] theorem ZdO:Jw Tryz.prog 94=some 98:=by kernel_rfl
@[go_sem] theorem Zvq:tn Tryz.prog 95=some 1:=by kernel_rfl
@[go_sem] theorem Zvr:ta Tryz.prog 95=some false:=by kernel_rfl
@[go_sem] theorem Zlh:YI Tryz.prog 95=none:=by kernel_rfl
@[go_sem] theorem bN:Jw Tryz.prog 95=some 148:=by kernel_rfl
@[go_sem] theorem Zli:Us Tryz.prog 95=false:=by kernel_rfl
@[go_sem] theorem Zvs:tz Tryz.prog 97=some [.slice none 0 0,.slice none 0 0,.int .i64 0,.bool false,.bool false,.bool false,.bool false,.bool false,.slice none 0 0,.int .i64 0,.int .i64 0,.int .i64 0,.int .i64 0,.int .i64 0,.slice none 0 0]:=by kernel_rfl
@[go_sem] theorem Zlj:tf Tryz.prog 97 0=some 0:=by kernel_rfl
@[go_sem] theorem Zlk:tf Tryz.prog 97 1=some 1:=by kernel_rfl
@[go_sem] theorem Zll:tf Tryz.prog 97 2=some 2:=by kernel_rfl
@[go_sem] theorem Zqi:Rw Tryz.prog 97=some [(0,1),(1,1),(2,13)]:=by kernel_rfl
@[go_sem] theorem Zlm:YI Tryz.prog 97=none:=by kernel_rfl
@[go_sem] theorem Zln:tn Tryz.prog 98=some 1:=by kernel_rfl
@[go_sem] theorem Zlo:tb Tryz.prog 98=some 8:=by kernel_rfl
@[go_sem] theorem Zvt:ta Tryz.prog 98=some false:=by kernel_rfl
@[go_sem] theorem Zlp:tz Tryz.prog 98=some [.pointer none]:=by kernel_rfl
@[go_sem] theorem Zqj:tn Tryz.prog 100=some 2:=by kernel_rfl
@[go_sem] theorem Zqk:ta Tryz.prog 100=some true:=by kernel_rfl
@[go_sem] theorem Zql:tz Tryz.prog 100=some [.slice none 0 0,.int .i64 0]:=by kernel_rfl
@[go_sem] theorem Zg1:tf Tryz.prog 100 0=some 0:=by kernel_rfl
@[go_sem] theorem Zg2:tf Tryz.prog 100 1=some 1:=by kernel_rfl
@[go_sem] theorem Zlq:Rw Tryz.prog 100=some [(0,1),(1,1)]:=by kernel_rfl
@[go_sem] theorem Zg3:YI Tryz.prog 100=none:=by kernel_rfl
@[go_sem] theorem Zqm:tn Tryz.prog 102=some 2:=by kernel_rfl
@[go_sem] theorem Zqn:ta Tryz.prog 102=some true:=by kernel_rfl
@[go_sem] theorem Zqo:tz Tryz.prog 102=some [.int .i64 0,.int .i64 0]:=by kernel_rfl
@[go_sem] theorem Zg4:tf Tryz.prog 102 0=some 0:=by kernel_rfl
@[go_sem] theorem Zg5:tf Tryz.prog 102 1=some 1:=by kernel_rfl
@[go_sem] theorem Zlr:Rw Tryz.prog 102=some [(0,1),(1,1)]:=by kernel_rfl
@[go_sem] theorem Zls:wI Tryz.prog 102=false:=by kernel_rfl
@[go_sem] theorem ZdP:flat Tryz.prog 6 102=some [some .i64,some .i64]:=by kernel_rfl
@[go_sem] theorem Zg6:YI Tryz.prog 102=none:=by kernel_rfl
@[go_sem] theorem ZdQ:tn Tryz.prog 103=some 1:=by kernel_rfl
@[go_sem] theorem ZdR:tb Tryz.prog 103=some 24:=by kernel_rfl
@[go_sem] theorem Zqp:ta Tryz.prog 103=some false:=by kernel_rfl
@[go_sem] theorem ZdS:tz Tryz.prog 103=some [.slice none 0 0]:=by kernel_rfl
@[go_sem] theorem Zg7:YI Tryz.prog 103=none:=by kernel_rfl
@[go_sem] theorem TZ:Jw Tryz.prog 103=some 146:=by kernel_rfl
@[go_sem] theorem Zg8:Us Tryz.prog 103=false:=by kernel_rfl
@[go_sem] theorem Zqq:tn Tryz.prog 105=some 3:=by kernel_rfl
@[go_sem] theorem Zqr:ta Tryz.prog 105=some true:=by kernel_rfl
@[go_sem] theorem Zqs:tz Tryz.prog 105=some [.int .i64 0,.int .i64 0,.slice none 0 0]:=by kernel_rfl
@[go_sem] theorem Zg9:tf Tryz.prog 105 0=some 0:=by kernel_rfl
@[go_sem] theorem Zha:tf Tryz.prog 105 1=some 2:=by kernel_rfl
@[go_sem] theorem Zlt:Rw Tryz.prog 105=some [(0,2),(2,1)]:=by kernel_rfl
@[go_sem] theorem Zhb:YI Tryz.prog 105=none:=by kernel_rfl
@[go_sem] theorem Zqt:tn Tryz.prog 106=some 1:=by kernel_rfl
@[go_sem] theorem Zqu:ta Tryz.prog 106=some false:=by kernel_rfl
@[go_sem] theorem Zqv:tn Tryz.prog 107=some 1:=by kernel_rfl
@[go_sem] theorem Zqw:ta Tryz.prog 107=some false:=by kernel_rfl
@[go_sem] theorem Zqx:tz Tryz.prog 109=some [.int .i64 0,.bool false,.slice none 0 0,.int .i64 0,.int .i64 0,.int .i64 0,.slice none 0 0,.int .i64 0,.int .i64 0,.pointer none,.map none,.slice none 0 0,.int .i64 0,.int .i64 0,.int .i64 0,.int .i64 0,.int .i64 0,.int .i64 0,.int .i64 0,.int .i64 0,.int .i64 0,.int .i64 0,.int .i64 0,.int .i64 0,.int .i64 0,.int .i64 0,.int .i64 0,.int .i64 0,.int .i64 0,.int .i64 0,.int .i64 0,.int .i64 0,.int .i64 0,.int .i64 0,.int .i64 0,.int .i64 0,.int .i64 0,.int .i64 0,.int .i64 0,.int .i64 0,.int .i64 0,.int .i64 0,.int .i64 0,.int .i64 0,.bool false,.bool false,.bool false,.bool false,.bool false,.bool false,.bool false,.bool false,.slice none 0 0,.slice none 0 0,.slice none 0 0,.nilFunc,.int .i64 0]:=by kernel_rfl
@[go_sem] theorem Zhc:tf Tryz.prog 109 0=some 0:=by kernel_rfl
@[go_sem] theorem Zhd:tf Tryz.prog 109 1=some 1:=by kernel_rfl
@[go_sem] theorem Zhe:tf Tryz.prog 109 2=some 2:=by kernel_rfl
@[go_sem] theorem Zhf:tf Tryz.prog 109 3=some 4:=by kernel_rfl
@[go_sem] theorem Zhg:tf Tryz.prog 109 4=some 7:=by kernel_rfl
@[go_sem] theorem Zhh:tf Tryz.prog 109 5=some 9:=by kernel_rfl
@[go_sem] theorem Zhi:tf Tryz.prog 109 6=some 10:=by kernel_rfl
@[go_sem] theorem Zhj:tf Tryz.prog 109 7=some 11:=by kernel_rfl
@[go_sem] theorem Zhk:tf Tryz.prog 109 8=some 12:=by kernel_rfl
@[go_sem] theorem Zhl:tf Tryz.prog 109 9=some 52:=by kernel_rfl
@[go_sem] theorem ZdT:tf Tryz.prog 109 10=some 53:=by kernel_rfl
@[go_sem] theorem ZdU:tf Tryz.prog 109 11=some 54:=by kernel_rfl
@[go_sem] theorem ZdV:tf Tryz.prog 109 12=some 55:=by kernel_rfl
@[go_sem] theorem ZdW:tf Tryz.prog 109 13=some 56:=by kernel_rfl
@[go_sem] theorem Zlu:Rw Tryz.prog 109=some [(0,1),(1,1),(2,2),(4,3),(7,2),(9,1),(10,1),(11,1),(12,40),(52,1),(53,1),(54,1),(55,1),(56,1)]:=by kernel_rfl
@[go_sem] theorem Zhm:YI Tryz.prog 109=none:=by kernel_rfl
@[go_sem] theorem Zhn:Il Tryz.prog 113=some .u64:=by kernel_rfl
@[go_sem] theorem Zqy:tn Tryz.prog 120=some 1:=by kernel_rfl
@[go_sem] theorem Zqz:ta Tryz.prog 120=some false:=by kernel_rfl
@[go_sem] theorem ZqA:tn Tryz.prog 121=some 5:=by kernel_rfl
@[go_sem] theorem ZqB:ta Tryz.prog 121=some true:=by kernel_rfl
@[go_sem] theorem ZqC:tz Tryz.prog 121=some [.pointer none,.pointer none,.pointer none,.pointer none,.pointer none]:=by kernel_rfl
@[go_sem] theorem Zlv:Rw Tryz.prog 121=none:=by kernel_rfl
@[go_sem] theorem Zho:YI Tryz.prog 121=some (5,120):=by kernel_rfl
@[go_sem] theorem Zhp:Us Tryz.prog 121=false:=by kernel_rfl
@[go_sem] theorem ZqD:tz Tryz.prog 125=some [.int .i64 0,.int .i64 0,.int .i64 0,.int .i64 0]:=by kernel_rfl
@[go_sem] theorem Zlw:Rw Tryz.prog 125=none:=by kernel_rfl
@[go_sem] theorem Zhq:YI Tryz.prog 125=some (4,3):=by kernel_rfl
@[go_sem] theorem Zlx:Jw Tryz.prog 125=none:=by kernel_rfl
@[go_sem] theorem Zhr:Us Tryz.prog 125=false:=by kernel_rfl
@[go_sem] theorem ZqE:tz Tryz.prog 133=some [.int .i64 0,.int .i64 0,.int .i64 0,.int .i64 0,.int .i64 0]:=by kernel_rfl
@[go_sem] theorem Zhs:tf Tryz.prog 133 0=some 0:=by kernel_rfl
@[go_sem] theorem Zht:tf Tryz.prog 133 1=some 1:=by kernel_rfl
@[go_sem] theorem Zhu:tf Tryz.prog 133 2=some 2:=by kernel_rfl
@[go_sem] theorem Zhv:tf Tryz.prog 133 3=some 3:=by kernel_rfl
@[go_sem] theorem Zhw:tf Tryz.prog 133 4=some 4:=by kernel_rfl
@[go_sem] theorem Zly:Rw Tryz.prog 133=some [(0,1),(1,1),(2,1),(3,1),(4,1)]:=by kernel_rfl
@[go_sem] theorem Zhx:YI Tryz.prog 133=none:=by kernel_rfl
@[go_sem] theorem Zhy:YI Tryz.prog 135=none:=by kernel_rfl
@[go_sem] theorem Zlz:Jw Tryz.prog 135=some 140:=by kernel_rfl
@[go_sem] theorem ZqF:tn Tryz.prog 140=some 2:=by kernel_rfl
@[go_sem] theorem ZqG:ta Tryz.prog 140=some true:=by kernel_rfl
@[go_sem] theorem ZqH:tz Tryz.prog 140=some [.pointer none,.int .i64 0]:=by kernel_rfl
@[go_sem] theorem Zhz:tf Tryz.prog 140 0=some 0:=by kernel_rfl
@[go_sem] theorem ZhA:tf Tryz.prog 140 1=some 1:=by kernel_rfl
@[go_sem] theorem ZlA:Rw Tryz.prog 140=some [(0,1),(1,1)]:=by kernel_rfl
@[go_sem] theorem ZhB:YI Tryz.prog 140=none:=by kernel_rfl
@[go_sem] theorem PZ:tn Tryz.prog 146=some 8:=by kernel_rfl
@[go_sem] theorem bO:tb Tryz.prog 146=some 64:=by kernel_rfl
@[go_sem] theorem ZqI:ta Tryz.prog 146=some true:=by kernel_rfl
@[go_sem] theorem bP:tz Tryz.prog 146=some [.int .i64 0,.int .i64 0,.int .i64 0,.int .i64 0,.int .i64 0,.int .i64 0,.int .i64 0,.int .i64 0]:=by kernel_rfl
@[go_sem] theorem ZhC:tf Tryz.prog 146 0=some 0:=by kernel_rfl
@[go_sem] theorem ZhD:tf Tryz.prog 146 1=some 1:=by kernel_rfl
@[go_sem] theorem ZhE:tf Tryz.prog 146 2=some 3:=by kernel_rfl
@[go_sem] theorem ZlB:Rw Tryz.prog 146=some [(0,1),(1,2),(3,5)]:=by kernel_rfl
@[go_sem] theorem ZlC:wI Tryz.prog 146=false:=by kernel_rfl
@[go_sem] theorem ZdX:flat Tryz.prog 6 146=some [some .i64,some .i64,some .i64,some .i64,some .i64,some .i64,some .i64,some .i64]:=by kernel_rfl
@[go_sem] theorem ZhF:YI Tryz.prog 146=none:=by kernel_rfl
@[go_sem] theorem mh:tn Tryz.prog 148=some 14:=by kernel_rfl
@[go_sem] theorem xo:tb Tryz.prog 148=some 128:=by kernel_rfl
@[go_sem] theorem ZqJ:ta Tryz.prog 148=some true:=by kernel_rfl
@[go_sem] theorem bQ:tz Tryz.prog 148=some [.int .i64 0,.int .i64 0,.int .i64 0,.int .i64 0,.int .i64 0,.int .i64 0,.int .i64 0,.int .i64 0,.int .i64 0,.int .i64 0,.int .i64 0,.int .i64 0,.int .i64 0,.slice none 0 0]:=by kernel_rfl
@[go_sem] theorem ZhG:tf Tryz.prog 148 0=some 0:=by kernel_rfl
@[go_sem] theorem ZhH:tf Tryz.prog 148 1=some 1:=by kernel_rfl
@[go_sem] theorem ZhI:tf Tryz.prog 148 2=some 2:=by kernel_rfl
@[go_sem] theorem ZhJ:tf Tryz.prog 148 3=some 3:=by kernel_rfl
@[go_sem] theorem ZhK:tf Tryz.prog 148 4=some 5:=by kernel_rfl
@[go_sem] theorem ZhL:tf Tryz.prog 148 5=some 13:=by kernel_rfl
@[go_sem] theorem ZlD:Rw Tryz.prog 148=some [(0,1),(1,1),(2,1),(3,2),(5,8),(13,1)]:=by kernel_rfl
@[go_sem] theorem ZhM:YI Tryz.prog 148=none:=by kernel_rfl
@[go_sem] theorem ZqK:tn Tryz.prog 166=some 1:=by kernel_rfl
@[go_sem] theorem ZqL:ta Tryz.prog 166=some false:=by kernel_rfl
@[go_sem] theorem ZqM:tn Tryz.prog 167=some 1:=by kernel_rfl
@[go_sem] theorem ZqN:ta Tryz.prog 167=some false:=by kernel_rfl
@[go_sem] theorem ZqO:tz Tryz.prog 169=some [.int .i64 0,.int .i64 0,.map none,.bool false,.map none,.map none]:=by kernel_rfl
@[go_sem] theorem ZhN:tf Tryz.prog 169 0=some 0:=by kernel_rfl
@[go_sem] theorem ZhO:tf Tryz.prog 169 1=some 2:=by kernel_rfl
@[go_sem] theorem ZhP:tf Tryz.prog 169 2=some 3:=by kernel_rfl
@[go_sem] theorem ZhQ:tf Tryz.prog 169 3=some 4:=by kernel_rfl
@[go_sem] theorem ZhR:tf Tryz.prog 169 4=some 5:=by kernel_rfl
@[go_sem] theorem ZlE:Rw Tryz.prog 169=some [(0,2),(2,1),(3,1),(4,1),(5,1)]:=by kernel_rfl
@[go_sem] theorem ZhS:YI Tryz.prog 169=none:=by kernel_rfl
@[go_sem] theorem ZqP:tn Tryz.prog 180=some 64:=by kernel_rfl
@[go_sem] theorem ZqQ:ta Tryz.prog 180=some true:=by kernel_rfl
@[go_sem] theorem ZqR:tz Tryz.prog 180=some [.int .u8 0,.int .u8 0,.int .u8 0,.int .u8 0,.int .u8 0,.int .u8 0,.int .u8 0,.int .u8 0,.int .u8 0,.int .u8 0,.int .u8 0,.int .u8 0,.int .u8 0,.int .u8 0,.int .u8 0,.int .u8 0,.int .u8 0,.int .u8 0,.int .u8 0,.int .u8 0,.int .u8 0,.int .u8 0,.int .u8 0,.int .u8 0,.int .u8 0,.int .u8 0,.int .u8 0,.int .u8 0,.int .u8 0,.int .u8 0,.int .u8 0,.int .u8 0,.int .u8 0,.int .u8 0,.int .u8 0,.int .u8 0,.int .u8 0,.int .u8 0,.int .u8 0,.int .u8 0,.int .u8 0,.int .u8 0,.int .u8 0,.int .u8 0,.int .u8 0,.int .u8 0,.int .u8 0,.int .u8 0,.int .u8 0,.int .u8 0,.int .u8 0,.int .u8 0,.int .u8 0,.int .u8 0,.int .u8 0,.int .u8 0,.int .u8 0,.int .u8 0,.int .u8 0,.int .u8 0,.int .u8 0,.int .u8 0,.int .u8 0,.int .u8 0]:=by kernel_rfl
@[go_sem] theorem ZhT:YI Tryz.prog 180=some (64,5):=by kernel_rfl
@[go_sem] theorem ZlF:Jw Tryz.prog 180=none:=by kernel_rfl
@[go_sem] theorem ZhU:Us Tryz.prog 180=false:=by kernel_rfl
@[go_sem] theorem ZqS:tn Tryz.prog 182=some 1:=by kernel_rfl
@[go_sem] theorem ZqT:ta Tryz.prog 182=some false:=by kernel_rfl
@[go_sem] theorem ZhV:Il Tryz.prog 182=some .u32:=by kernel_rfl
@[go_sem] theorem ZqU:tn Tryz.prog 184=some 8:=by kernel_rfl
@[go_sem] theorem ZqV:ta Tryz.prog 184=some true:=by kernel_rfl
@[go_sem] theorem ZqW:tz Tryz.prog 184=some [.int .u32 0,.int .u32 0,.int .u32 0,.int .u32 0,.int .u32 0,.int .u32 0,.int .u32 0,.int .u32 0]:=by kernel_rfl
@[go_sem] theorem ZlG:Rw Tryz.prog 184=none:=by kernel_rfl
@[go_sem] theorem ZhW:YI Tryz.prog 184=some (8,182):=by kernel_rfl
@[go_sem] theorem ZlH:Jw Tryz.prog 184=none:=by kernel_rfl
@[go_sem] theorem ZhX:Us Tryz.prog 184=false:=by kernel_rfl
@[go_sem] theorem ZqX:tn Tryz.prog 197=some 16:=by kernel_rfl
@[go_sem] theorem ZqY:ta Tryz.prog 197=some true:=by kernel_rfl
@[go_sem] theorem ZqZ:tz Tryz.prog 197=some [.int .u32 0,.int .u32 0,.int .u32 0,.int .u32 0,.int .u32 0,.int .u32 0,.int .u32 0,.int .u32 0,.int .u32 0,.int .u32 0,.int .u32 0,.int .u32 0,.int .u32 0,.int .u32 0,.int .u32 0,.int .u32 0]:=by kernel_rfl
@[go_sem] theorem ZlI:Rw Tryz.prog 197=none:=by kernel_rfl
@[go_sem] theorem ZhY:YI Tryz.prog 197=some (16,182):=by kernel_rfl
@[go_sem] theorem ZlJ:Jw Tryz.prog 197=none:=by kernel_rfl
@[go_sem] theorem Zq0:tz Tryz.prog 201=some [.int .u32 0,.int .u32 0,.int .u32 0,.int .u32 0,.int .u32 0,.int .u32 0,.int .u32 0,.int .u32 0,.int .u32 0,.int .u32 0,.int .u32 0,.int .u32 0,.int .u32 0,.int .u32 0,.int .u32 0,.int .u32 0,.int .u32 0,.int .u32 0,.int .u32 0,.int .u32 0,.int .u32 0,.int .u32 0,.int .u32 0,.int .u32 0,.int .u32 0,.int .u32 0,.int .u32 0,.int .u32 0,.int .u32 0,.int .u32 0,.int .u32 0,.int .u32 0,.int .u32 0,.int .u32 0,.int .u32 0,.int .u32 0,.int .u32 0,.int .u32 0,.int .u32 0,.int .u32 0,.int .u32 0,.int .u32 0,.int .u32 0,.int .u32 0,.int .u32 0,.int .u32 0,.int .u32 0,.int .u32 0,.int .u32 0,.int .u32 0,.int .u32 0,.int .u32 0,.int .u32 0,.int .u32 0,.int .u32 0,.int .u32 0,.int .u32 0,.int .u32 0,.int .u32 0,.int .u32 0,.int .u32 0,.int .u32 0,.int .u32 0,.int .u32 0]:=by kernel_rfl
@[go_sem] theorem ZhZ:YI Tryz.prog 201=some (64,182):=by kernel_rfl
@[go_sem] theorem ZlK:Jw Tryz.prog 201=none:=by kernel_rfl
@[go_sem] theorem Zq1:tn Tryz.prog 205=some 0:=by kernel_rfl
@[go_sem] theorem Zq2:tz Tryz.prog 205=some []:=by kernel_rfl
@[go_sem] theorem ZlL:Rw Tryz.prog 205=some []:=by kernel_rfl
@[go_sem] theorem Zh0:YI Tryz.prog 205=none:=by kernel_rfl
@[go_sem] theorem Zq3:tz Tryz.prog 224=some [.int .i64 0,.int .i64 0,.int .i64 0]:=by kernel_rfl
@[go_sem] theorem ZlM:Rw Tryz.prog 224=none:=by kernel_rfl
@[go_sem] theorem Zh1:YI Tryz.prog 224=some (3,3):=by kernel_rfl
@[go_sem] theorem Zh2:Us Tryz.prog 224=false:=by kernel_rfl
@[go_sem] theorem Zq4:tn Tryz.prog 225=some 1:=by kernel_rfl
@[go_sem] theorem Zq5:ta Tryz.prog 225=some false:=by kernel_rfl
@[go_sem] theorem Zh3:Il Tryz.prog 225=some .u64:=by kernel_rfl
@[go_sem] theorem Zq6:tn Tryz.prog 227=some 5:=by kernel_rfl
@[go_sem] theorem Zq7:ta Tryz.prog 227=some true:=by kernel_rfl
@[go_sem] theorem Zq8:tz Tryz.prog 227=some [.int .u64 0,.int .u64 0,.int .u64 0,.int .u64 0,.int .u64 0]:=by kernel_rfl
@[go_sem] theorem ZlN:Rw Tryz.prog 227=none:=by kernel_rfl
@[go_sem] theorem Zh4:YI Tryz.prog 227=some (5,225):=by kernel_rfl
@[go_sem] theorem ZlO:Jw Tryz.prog 227=none:=by kernel_rfl
@[go_sem] theorem Zh5:Us Tryz.prog 227=false:=by kernel_rfl
@[go_sem] theorem Zq9:tz Tryz.prog 229=some [.int .u8 0,.int .u8 0,.int .u8 0,.int .u8 0,.int .u8 0,.int .u8 0,.int .u8 0,.int .u8 0,.int .u8 0,.int .u8 0,.int .u8 0,.int .u8 0,.int .u8 0,.int .u8 0,.int .u8 0,.int .u8 0,.int .u8 0]:=by kernel_rfl
@[go_sem] theorem Zh6:YI Tryz.prog 229=some (17,5):=by kernel_rfl
@[go_sem] theorem ZlP:Jw Tryz.prog 229=none:=by kernel_rfl
@[go_sem] theorem Zh7:Us Tryz.prog 229=false:=by kernel_rfl
@[go_sem] theorem Zh8:YI Tryz.prog 240=none:=by kernel_rfl
@[go_sem] theorem zH:Jw Tryz.prog 240=some 103:=by kernel_rfl
@[go_sem] theorem Zh9:YI Tryz.prog 246=none:=by kernel_rfl
@[go_sem] theorem ZlQ:Jw Tryz.prog 246=some 3:=by kernel_rfl
@[go_sem] theorem Zvu:goes Tryz.prog 10=true:=by kernel_rfl
@[go_sem] theorem Zvv:goes Tryz.prog 12=true:=by kernel_rfl
@[go_sem] theorem Zvw:goes Tryz.prog 13=true:=by kernel_rfl
@[go_sem] theorem Zvx:goes Tryz.prog 14=true:=by kernel_rfl
@[go_sem] theorem Zvy:goes Tryz.prog 15=true:=by kernel_rfl
@[go_sem] theorem Zvz:goes Tryz.prog 16=true:=by kernel_rfl
@[go_sem] theorem ZvA:goes Tryz.prog 19=true:=by kernel_rfl
@[go_sem] theorem ZvB:goes Tryz.prog 20=true:=by kernel_rfl
@[go_sem] theorem ZvC:goes Tryz.prog 21=true:=by kernel_rfl
@[go_sem] theorem ZvD:goes Tryz.prog 22=true:=by kernel_rfl
@[go_sem] theorem ZvE:goes Tryz.prog 23=true:=by kernel_rfl
@[go_sem] theorem ZvF:goes Tryz.prog 24=true:=by kernel_rfl
@[go_sem] theorem ZvG:goes Tryz.prog 25=true:=by kernel_rfl
@[go_sem] theorem ZvH:goes Tryz.prog 26=true:=by kernel_rfl
@[go_sem] theorem ZvI:goes Tryz.prog 27=true:=by kernel_rfl
@[go_sem] theorem ZvJ:goes Tryz.prog 28=true:=by kernel_rfl
@[go_sem] theorem ZvK:goes Tryz.prog 30=true:=by kernel_rfl
@[go_sem] theorem ZvL:goes Tryz.prog 31=true:=by kernel_rfl
@[go_sem] theorem ZvM:goes Tryz.prog 32=true:=by kernel_rfl
@[go_sem] theorem ZvN:goes Tryz.prog 33=true:=by kernel_rfl
@[go_sem] theorem ZvO:goes Tryz.prog 34=true:=by kernel_rfl
@[go_sem] theorem ZvP:goes Tryz.prog 35=true:=by kernel_rfl
@[go_sem] theorem ZvQ:goes Tryz.prog 36=true:=by kernel_rfl
@[go_sem] theorem ZvR:goes Tryz.prog 37=true:=by kernel_rfl
@[go_sem] theorem ZvS:goes Tryz.prog 38=true:=by kernel_rfl
@[go_sem] theorem ZvT:goes Tryz.prog 39=true:=by kernel_rfl
@[go_sem] theorem ZvU:goes Tryz.prog 40=true:=by kernel_rfl
@[go_sem] theorem ZvV:goes Tryz.prog 41=true:=by kernel_rfl
@[go_sem] theorem ZvW:goes Tryz.prog 42=true:=by kernel_rfl
@[go_sem] theorem ZvX:goes Tryz.prog 43=true:=by kernel_rfl
@[go_sem] theorem ZvY:goes Tryz.prog 44=true:=by kernel_rfl
@[go_sem] theorem ZvZ:goes Tryz.prog 45=true:=by kernel_rfl
@[go_sem] theorem Zv0:goes Tryz.prog 46=true:=by kernel_rfl
@[go_sem] theorem Zv1:goes Tryz.prog 47=true:=by kernel_rfl
@[go_sem] theorem Zv2:goes Tryz.prog 48=true:=by kernel_rfl
@[go_sem] theorem Zv3:goes Tryz.prog 49=true:=by kernel_rfl
@[go_sem] theorem Zv4:goes Tryz.prog 50=true:=by kernel_rfl
@[go_sem] theorem Zv5:goes Tryz.prog 51=true:=by kernel_rfl
@[go_sem] theorem Zv6:goes Tryz.prog 52=true:=by kernel_rfl
@[go_sem] theorem Zv7:goes Tryz.prog 53=true:=by kernel_rfl
@[go_sem] theorem Zv8:goes Tryz.prog 54=true:=by kernel_rfl
@[go_sem] theorem Zv9:goes Tryz.prog 55=true:=by kernel_rfl
@[go_sem] theorem Zwa:goes Tryz.prog 56=true:=by kernel_rfl
@[go_sem] theorem Zwb:goes Tryz.prog 57=true:=by kernel_rfl
@[go_sem] theorem Zwc:goes Tryz.prog 58=true:=by kernel_rfl
@[go_sem] theorem Zwd:goes Tryz.prog 59=true:=by kernel_rfl
@[go_sem] theorem Zwe:goes Tryz.prog 60=true:=by kernel_rfl
@[go_sem] theorem Zwf:goes Tryz.prog 61=true:=by kernel_rfl
@[go_sem] theorem Zwg:goes Tryz.prog 62=true:=by kernel_rfl
@[go_sem] theorem Zwh:goes Tryz.prog 63=true:=by kernel_rfl
@[go_sem] theorem Zwi:goes Tryz.prog 64=true:=by kernel_rfl
@[go_sem] theorem Zwj:goes Tryz.prog 65=true:=by kernel_rfl
@[go_sem] theorem Zwk:goes Tryz.prog 66=true:=by kernel_rfl
@[go_sem] theorem Zwl:goes Tryz.prog 67=true:=by kernel_rfl
@[go_sem] theorem Zwm:goes Tryz.prog 68=true:=by kernel_rfl
@[go_sem] theorem Zwn:goes Tryz.prog 69=true:=by kernel_rfl
@[go_sem] theorem Zwo:goes Tryz.prog 70=true:=by kernel_rfl
@[go_sem] theorem Zwp:goes Tryz.prog 71=true:=by kernel_rfl
@[go_sem] theorem Zwq:goes Tryz.prog 72=true:=by kernel_rfl
@[go_sem] theorem Zwr:goes Tryz.prog 73=true:=by kernel_rfl
@[go_sem] theorem Zws:goes Tryz.prog 74=true:=by kernel_rfl
@[go_sem] theorem Zwt:goes Tryz.prog 75=true:=by kernel_rfl
@[go_sem] theorem Zwu:goes Tryz.prog 76=true:=by kernel_rfl
@[go_sem] theorem Zwv:goes Tryz.prog 77=true:=by kernel_rfl
@[go_sem] theorem Zww:goes Tryz.prog 78=true:=by kernel_rfl
@[go_sem] theorem Zwx:goes Tryz.prog 79=true:=by kernel_rfl
@[go_sem] theorem Zwy:goes Tryz.prog 80=true:=by kernel_rfl
@[go_sem] theorem Zwz:goes Tryz.prog 81=true:=by kernel_rfl
@[go_sem] theorem ZwA:goes Tryz.prog 82=true:=by kernel_rfl
@[go_sem] theorem ZwB:goes Tryz.prog 83=true:=by kernel_rfl
@[go_sem] theorem ZwC:goes Tryz.prog 84=true:=by kernel_rfl
@[go_sem] theorem ZwD:goes Tryz.prog 85=true:=by kernel_rfl
@[go_sem] theorem ZwE:goes Tryz.prog 86=true:=by kernel_rfl
@[go_sem] theorem ZwF:goes Tryz.prog 87=true:=by kernel_rfl
@[go_sem] theorem ZwG:goes Tryz.prog 88=true:=by kernel_rfl
@[go_sem] theorem ZwH:goes Tryz.prog 89=true:=by kernel_rfl
@[go_sem] theorem ZwI:goes Tryz.prog 90=true:=by kernel_rfl
@[go_sem] theorem ZwJ:goes Tryz.prog 91=true:=by kernel_rfl
@[go_sem] theorem ZwK:goes Tryz.prog 92=true:=by kernel_rfl
@[go_sem] theorem ZwL:goes Tryz.prog 93=true:=by kernel_rfl
@[go_sem] theorem ZwM:goes Tryz.prog 94=true:=by kernel_rfl
@[go_sem] theorem ZwN:goes Tryz.prog 95=true:=by kernel_rfl
@[go_sem] theorem ZwO:goes Tryz.prog 96=true:=by kernel_rfl
@[go_sem] theorem ZwP:goes Tryz.prog 97=true:=by kernel_rfl
@[go_sem] theorem ZwQ:goes Tryz.prog 98=true:=by kernel_rfl
@[go_sem] theorem ZwR:goes Tryz.prog 99=true:=by kernel_rfl
@[go_sem] theorem Zra:goes Tryz.prog 100=true:=by kernel_rfl
@[go_sem] theorem Zrb:goes Tryz.prog 101=true:=by kernel_rfl
@[go_sem] theorem Zrc:goes Tryz.prog 102=true:=by kernel_rfl
@[go_sem] theorem Zrd:goes Tryz.prog 103=true:=by kernel_rfl
@[go_sem] theorem Zre:goes Tryz.prog 104=true:=by kernel_rfl
@[go_sem] theorem Zrf:goes Tryz.prog 105=true:=by kernel_rfl
@[go_sem] theorem Zrg:goes Tryz.prog 106=true:=by kernel_rfl
@[go_sem] theorem Zrh:goes Tryz.prog 107=true:=by kernel_rfl
@[go_sem] theorem Zri:goes Tryz.prog 108=true:=by kernel_rfl
@[go_sem] theorem Zrj:goes Tryz.prog 109=true:=by kernel_rfl
@[go_sem] theorem Zrk:goes Tryz.prog 111=true:=by kernel_rfl
@[go_sem] theorem Zrl:goes Tryz.prog 113=true:=by kernel_rfl
@[go_sem] theorem Zrm:goes Tryz.prog 114=true:=by kernel_rfl
@[go_sem] theorem Zrn:goes Tryz.prog 116=true:=by kernel_rfl
@[go_sem] theorem Zro:goes Tryz.prog 117=true:=by kernel_rfl
@[go_sem] theorem Zrp:goes Tryz.prog 120=true:=by kernel_rfl
@[go_sem] theorem Zrq:goes Tryz.prog 121=true:=by kernel_rfl
@[go_sem] theorem Zrr:goes Tryz.prog 122=true:=by kernel_rfl
@[go_sem] theorem Zrs:goes Tryz.prog 123=true:=by kernel_rfl
@[go_sem] theorem Zrt:goes Tryz.prog 124=true:=by kernel_rfl
@[go_sem] theorem Zru:goes Tryz.prog 125=true:=by kernel_rfl
@[go_sem] theorem Zrv:goes Tryz.prog 126=true:=by kernel_rfl
@[go_sem] theorem Zrw:goes Tryz.prog 127=true:=by kernel_rfl
@[go_sem] theorem Zrx:goes Tryz.prog 128=true:=by kernel_rfl
@[go_sem] theorem Zry:goes Tryz.prog 129=true:=by kernel_rfl
@[go_sem] theorem Zrz:goes Tryz.prog 130=true:=by kernel_rfl
@[go_sem] theorem ZrA:goes Tryz.prog 131=true:=by kernel_rfl
@[go_sem] theorem ZrB:goes Tryz.prog 132=true:=by kernel_rfl
@[go_sem] theorem ZrC:goes Tryz.prog 133=true:=by kernel_rfl
@[go_sem] theorem ZrD:goes Tryz.prog 134=true:=by kernel_rfl
@[go_sem] theorem ZrE:goes Tryz.prog 135=true:=by kernel_rfl
@[go_sem] theorem ZrF:goes Tryz.prog 136=true:=by kernel_rfl
@[go_sem] theorem ZrG:goes Tryz.prog 138=true:=by kernel_rfl
@[go_sem] theorem ZrH:goes Tryz.prog 139=true:=by kernel_rfl
@[go_sem] theorem ZrI:goes Tryz.prog 140=true:=by kernel_rfl
@[go_sem] theorem ZrJ:goes Tryz.prog 141=true:=by kernel_rfl
@[go_sem] theorem ZrK:goes Tryz.prog 142=true:=by kernel_rfl
@[go_sem] theorem ZrL:goes Tryz.prog 143=true:=by kernel_rfl
@[go_sem] theorem ZrM:goes Tryz.prog 144=true:=by kernel_rfl
@[go_sem] theorem ZrN:goes Tryz.prog 147=true:=by kernel_rfl
def Hh:List Nat:=[104,97,114,110,101,115,115,32,55,49,98,49,57,53,53,54,98,50,55,53,54,51,55,48,55,99,56,55,100,99,97,51,55,54,56,102,56,53,98,51,50,57,101,101,48,100,50,102,54,54,102,97,53,55,57,100,52,55,55,98,48,100,101,49,55,102,52,100,56,97,49,101,32,99,117,116,32,97,116,32,99,111,110,99,108,97,118,101,47,99,111,110,99,108,97,118,101,116,111,112,46,84,111,112,71,114,111,119,115,32,99,111,110,99,108,97,118,101,47,99,111,110,99,108,97,118,101,116,111,112,46,84,111,112,83,117,98,109,105,116,116,101,100,32,99,111,110,99,108,97,118,101,47,99,111,110,99,108,97,118,101,116,111,112,46,84,111,112,70,111,114,103,101,100,32,99,111,110,99,108,97,118,101,47,99,111,110,99,108,97,118,101,116,111,112,46,84,111,112,76,101,97,100,101,114,108,101,115,115,32,99,111,110,99,108,97,118,101,47,99,111,110,99,108,97,118,101,116,111,112,46,84,111,112,77,105,110,111,114,105,116,121,32,99,111,110,99,108,97,118,101,47,99,111,110,99,108,97,118,101,116,111,112,46,84,111,112,66,97,100,32,99,111,110,99,108,97,118,101,47,99,111,110,99,108,97,118,101,116,111,112,46,84,111,112,67,104,97,105,110,115]
theorem BP:∃rest,Go.behindMainWord (Go.wordsSigns Tryz.prog.initOrder.toList) = "cut".toList :: rest:=
 fg (L:=Hh.map Char.ofNat) (by kernel_rfl) (by kernel_rfl)
theorem ZdY:Tryz.prog.make=some .cut:=BP.elim fun _ h=>lq h
theorem zI:Tryz.prog.liftsFinal=false:=BP.elim fun _ h=>fe h
theorem zK:Tryz.prog.mayEnter=true:=BP.elim fun _ h=>ff h (by kernel_rfl) (by kernel_rfl) (by kernel_rfl)
theorem mi:Go.ownKnob Tryz.prog.godebug=none:=by kernel_rfl
theorem mj:Go.laidOutB Tryz.prog=true:=by kernel_rfl
theorem mixed:Tryz.prog.follows .mixedOrders=true:=by kernel_rfl
end Go.Proofs.YtpomedigibbeeaaGreatDoor

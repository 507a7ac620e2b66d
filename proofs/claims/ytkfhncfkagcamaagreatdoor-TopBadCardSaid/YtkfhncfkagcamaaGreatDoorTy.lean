/- The tables of this seat's program, in V2's words. Printed by gen_ty.py. -/
import Derived.Test.YtkfhncfkagcamaaGreatDoorRows
import Derived.Test.YtkfhncfkagcamaaGreatDoorV9
import Derived.Test.YtkfhncfkagcamaaGreatDoorW3
import Derived.KernelRfl
namespace Go.Proofs.YtkfhncfkagcamaaGreatDoor
open Go.V
set_option maxRecDepth 100000
@[go_sem] theorem tn1:tn Tryz.prog 1=some 1:=by kernel_rfl
@[go_sem] theorem qp:tb Tryz.prog 1=some 8:=by kernel_rfl
@[go_sem] theorem ta1:ta Tryz.prog 1=some false:=by kernel_rfl
@[go_sem] theorem tz1:tz Tryz.prog 1=some [.nilFunc]:=by kernel_rfl
@[go_sem] theorem Hb:tb Tryz.prog 2=some 8:=by kernel_rfl
@[go_sem] theorem tn3:tn Tryz.prog 3=some 1:=by kernel_rfl
@[go_sem] theorem sJ:tb Tryz.prog 3=some 8:=by kernel_rfl
@[go_sem] theorem ta3:ta Tryz.prog 3=some false:=by kernel_rfl
@[go_sem] theorem tz3:tz Tryz.prog 3=some [.int .i64 0]:=by kernel_rfl
@[go_sem] theorem Zqg:Ia Tryz.prog 3=some .i64:=by kernel_rfl
@[go_sem] theorem tn4:tn Tryz.prog 4=some 1:=by kernel_rfl
@[go_sem] theorem tb4:tb Tryz.prog 4=some 1:=by kernel_rfl
@[go_sem] theorem ta4:ta Tryz.prog 4=some false:=by kernel_rfl
@[go_sem] theorem Wf:tn Tryz.prog 5=some 1:=by kernel_rfl
@[go_sem] theorem Vg:tb Tryz.prog 5=some 1:=by kernel_rfl
@[go_sem] theorem ta5:ta Tryz.prog 5=some false:=by kernel_rfl
@[go_sem] theorem Vh:tz Tryz.prog 5=some [.int .u8 0]:=by kernel_rfl
@[go_sem] theorem Zqh:Ia Tryz.prog 5=some .u8:=by kernel_rfl
@[go_sem] theorem Zko:Yu Tryz.prog 22=none:=by kernel_rfl
@[go_sem] theorem Zqi:Jf Tryz.prog 22=some 81:=by kernel_rfl
@[go_sem] theorem Zkp:Yu Tryz.prog 23=none:=by kernel_rfl
@[go_sem] theorem xd:Jf Tryz.prog 23=some 36:=by kernel_rfl
@[go_sem] theorem Zkq:Q4 Tryz.prog 23=false:=by kernel_rfl
@[go_sem] theorem Zkr:Yu Tryz.prog 25=none:=by kernel_rfl
@[go_sem] theorem Zdx:Jf Tryz.prog 25=some 33:=by kernel_rfl
@[go_sem] theorem Zvw:tn Tryz.prog 28=some 5:=by kernel_rfl
@[go_sem] theorem Zvx:ta Tryz.prog 28=some true:=by kernel_rfl
@[go_sem] theorem Zqj:kV Tryz.prog 28=false:=by kernel_rfl
@[go_sem] theorem Zg0:flat Tryz.prog 6 28=some [none,none,none,none,none]:=by kernel_rfl
@[go_sem] theorem Zks:Yu Tryz.prog 28=some (5,4):=by kernel_rfl
@[go_sem] theorem Zqk:Jf Tryz.prog 28=none:=by kernel_rfl
@[go_sem] theorem Zvy:tn Tryz.prog 29=some 1:=by kernel_rfl
@[go_sem] theorem Zvz:ta Tryz.prog 29=some false:=by kernel_rfl
@[go_sem] theorem Zkt:Yu Tryz.prog 29=none:=by kernel_rfl
@[go_sem] theorem Zdy:Jf Tryz.prog 29=some 37:=by kernel_rfl
@[go_sem] theorem ZvA:tn Tryz.prog 30=some 5:=by kernel_rfl
@[go_sem] theorem ZvB:ta Tryz.prog 30=some true:=by kernel_rfl
@[go_sem] theorem ZvC:tz Tryz.prog 30=some [.int .i64 0,.int .i64 0,.int .i64 0,.int .i64 0,.int .i64 0]:=by kernel_rfl
@[go_sem] theorem Zql:kV Tryz.prog 30=false:=by kernel_rfl
@[go_sem] theorem Zg1:flat Tryz.prog 6 30=some [some .i64,some .i64,some .i64,some .i64,some .i64]:=by kernel_rfl
@[go_sem] theorem Zku:Yu Tryz.prog 30=some (5,3):=by kernel_rfl
@[go_sem] theorem Zqm:Jf Tryz.prog 30=none:=by kernel_rfl
@[go_sem] theorem ZvD:tn Tryz.prog 31=some 1:=by kernel_rfl
@[go_sem] theorem ZvE:ta Tryz.prog 31=some false:=by kernel_rfl
@[go_sem] theorem Zkv:Yu Tryz.prog 31=none:=by kernel_rfl
@[go_sem] theorem Zdz:Jf Tryz.prog 31=some 42:=by kernel_rfl
@[go_sem] theorem Zkw:tn Tryz.prog 33=some 13:=by kernel_rfl
@[go_sem] theorem Zkx:tb Tryz.prog 33=some 104:=by kernel_rfl
@[go_sem] theorem ZvF:ta Tryz.prog 33=some true:=by kernel_rfl
@[go_sem] theorem Zky:tz Tryz.prog 33=some [.int .i64 0,.bool false,.bool false,.bool false,.bool false,.bool false,.slice none 0 0,.int .i64 0,.int .i64 0,.int .i64 0,.int .i64 0,.int .i64 0,.slice none 0 0]:=by kernel_rfl
@[go_sem] theorem Zkz:tf Tryz.prog 33 0=some 0:=by kernel_rfl
@[go_sem] theorem ZkA:tf Tryz.prog 33 1=some 1:=by kernel_rfl
@[go_sem] theorem ZkB:tf Tryz.prog 33 2=some 6:=by kernel_rfl
@[go_sem] theorem ZkC:tf Tryz.prog 33 3=some 7:=by kernel_rfl
@[go_sem] theorem ZkD:tf Tryz.prog 33 4=some 12:=by kernel_rfl
@[go_sem] theorem Zqn:Rk Tryz.prog 33=some [(0,1),(1,5),(6,1),(7,5),(12,1)]:=by kernel_rfl
@[go_sem] theorem ZkE:Yu Tryz.prog 33=none:=by kernel_rfl
@[go_sem] theorem ZvG:tn Tryz.prog 34=some 1:=by kernel_rfl
@[go_sem] theorem ZvH:ta Tryz.prog 34=some false:=by kernel_rfl
@[go_sem] theorem ZkF:Yu Tryz.prog 34=none:=by kernel_rfl
@[go_sem] theorem Yt:Jf Tryz.prog 34=some 5:=by kernel_rfl
@[go_sem] theorem ZkG:Q4 Tryz.prog 34=false:=by kernel_rfl
@[go_sem] theorem ZdA:tn Tryz.prog 36=some 5:=by kernel_rfl
@[go_sem] theorem ZdB:tb Tryz.prog 36=some 56:=by kernel_rfl
@[go_sem] theorem ZvI:ta Tryz.prog 36=some true:=by kernel_rfl
@[go_sem] theorem ZdC:tz Tryz.prog 36=some [.int .i64 0,.int .i64 0,.int .i64 0,.int .i64 0,.slice none 0 0]:=by kernel_rfl
@[go_sem] theorem ZkH:tf Tryz.prog 36 0=some 0:=by kernel_rfl
@[go_sem] theorem ZkI:tf Tryz.prog 36 1=some 1:=by kernel_rfl
@[go_sem] theorem ZkJ:tf Tryz.prog 36 2=some 2:=by kernel_rfl
@[go_sem] theorem ZkK:tf Tryz.prog 36 3=some 3:=by kernel_rfl
@[go_sem] theorem ZkL:tf Tryz.prog 36 4=some 4:=by kernel_rfl
@[go_sem] theorem Zqo:Rk Tryz.prog 36=some [(0,1),(1,1),(2,1),(3,1),(4,1)]:=by kernel_rfl
@[go_sem] theorem ZkM:Yu Tryz.prog 36=none:=by kernel_rfl
@[go_sem] theorem ZkN:tn Tryz.prog 37=some 1:=by kernel_rfl
@[go_sem] theorem ZkO:tb Tryz.prog 37=some 24:=by kernel_rfl
@[go_sem] theorem ZvJ:ta Tryz.prog 37=some false:=by kernel_rfl
@[go_sem] theorem ZkP:tz Tryz.prog 37=some [.slice none 0 0]:=by kernel_rfl
@[go_sem] theorem ZkQ:Yu Tryz.prog 37=none:=by kernel_rfl
@[go_sem] theorem Ev:Jf Tryz.prog 37=some 47:=by kernel_rfl
@[go_sem] theorem ZkR:Q4 Tryz.prog 37=false:=by kernel_rfl
@[go_sem] theorem ZvK:tn Tryz.prog 40=some 2:=by kernel_rfl
@[go_sem] theorem ZvL:ta Tryz.prog 40=some true:=by kernel_rfl
@[go_sem] theorem ZvM:tz Tryz.prog 40=some [.int .i64 0,.int .i64 0]:=by kernel_rfl
@[go_sem] theorem Zqp:Rk Tryz.prog 40=some [(0,1),(1,1)]:=by kernel_rfl
@[go_sem] theorem Zqq:kV Tryz.prog 40=false:=by kernel_rfl
@[go_sem] theorem Zg2:flat Tryz.prog 6 40=some [some .i64,some .i64]:=by kernel_rfl
@[go_sem] theorem ZkS:Yu Tryz.prog 40=none:=by kernel_rfl
@[go_sem] theorem ZkT:tn Tryz.prog 42=some 5:=by kernel_rfl
@[go_sem] theorem ZkU:tb Tryz.prog 42=some 40:=by kernel_rfl
@[go_sem] theorem ZvN:ta Tryz.prog 42=some true:=by kernel_rfl
@[go_sem] theorem ZkV:tz Tryz.prog 42=some [.int .i64 0,.int .i64 0,.int .i64 0,.int .i64 0,.int .i64 0]:=by kernel_rfl
@[go_sem] theorem Zqr:Rk Tryz.prog 42=some [(0,1),(1,1),(2,1),(3,2)]:=by kernel_rfl
@[go_sem] theorem Zqs:kV Tryz.prog 42=false:=by kernel_rfl
@[go_sem] theorem Zg3:flat Tryz.prog 6 42=some [some .i64,some .i64,some .i64,some .i64,some .i64]:=by kernel_rfl
@[go_sem] theorem ZkW:Yu Tryz.prog 42=none:=by kernel_rfl
@[go_sem] theorem ZkX:Yu Tryz.prog 44=none:=by kernel_rfl
@[go_sem] theorem Zqt:Jf Tryz.prog 44=some 34:=by kernel_rfl
@[go_sem] theorem zu:tn Tryz.prog 47=some 5:=by kernel_rfl
@[go_sem] theorem ZdD:tb Tryz.prog 47=some 40:=by kernel_rfl
@[go_sem] theorem ZvO:ta Tryz.prog 47=some true:=by kernel_rfl
@[go_sem] theorem lQ:tz Tryz.prog 47=some [.int .i64 0,.int .i64 0,.int .i64 0,.int .i64 0,.int .i64 0]:=by kernel_rfl
@[go_sem] theorem ZkY:tf Tryz.prog 47 0=some 0:=by kernel_rfl
@[go_sem] theorem ZkZ:tf Tryz.prog 47 1=some 1:=by kernel_rfl
@[go_sem] theorem Zk0:tf Tryz.prog 47 2=some 2:=by kernel_rfl
@[go_sem] theorem Zk1:tf Tryz.prog 47 3=some 3:=by kernel_rfl
@[go_sem] theorem Zk2:tf Tryz.prog 47 4=some 4:=by kernel_rfl
@[go_sem] theorem Zqu:Rk Tryz.prog 47=some [(0,1),(1,1),(2,1),(3,1),(4,1)]:=by kernel_rfl
@[go_sem] theorem Zqv:kV Tryz.prog 47=false:=by kernel_rfl
@[go_sem] theorem Zg4:flat Tryz.prog 6 47=some [some .i64,some .i64,some .i64,some .i64,some .i64]:=by kernel_rfl
@[go_sem] theorem Zk3:Yu Tryz.prog 47=none:=by kernel_rfl
@[go_sem] theorem ZvP:tn Tryz.prog 57=some 8:=by kernel_rfl
@[go_sem] theorem ZvQ:ta Tryz.prog 57=some true:=by kernel_rfl
@[go_sem] theorem Zk4:Yu Tryz.prog 57=some (8,3):=by kernel_rfl
@[go_sem] theorem Zqw:Jf Tryz.prog 57=none:=by kernel_rfl
@[go_sem] theorem Zk5:Q4 Tryz.prog 57=false:=by kernel_rfl
@[go_sem] theorem Zk6:Yu Tryz.prog 58=some (8,40):=by kernel_rfl
@[go_sem] theorem Zqx:Jf Tryz.prog 58=none:=by kernel_rfl
@[go_sem] theorem ZvR:tn Tryz.prog 59=some 8:=by kernel_rfl
@[go_sem] theorem ZvS:ta Tryz.prog 59=some true:=by kernel_rfl
@[go_sem] theorem ZvT:tz Tryz.prog 59=some [.bool false,.bool false,.bool false,.bool false,.bool false,.bool false,.bool false,.bool false]:=by kernel_rfl
@[go_sem] theorem Zqy:Rk Tryz.prog 59=none:=by kernel_rfl
@[go_sem] theorem Zk7:Yu Tryz.prog 59=some (8,4):=by kernel_rfl
@[go_sem] theorem Zqz:Jf Tryz.prog 59=none:=by kernel_rfl
@[go_sem] theorem Zk8:Q4 Tryz.prog 59=false:=by kernel_rfl
@[go_sem] theorem ZvU:tn Tryz.prog 61=some 40:=by kernel_rfl
@[go_sem] theorem ZvV:ta Tryz.prog 61=some true:=by kernel_rfl
@[go_sem] theorem ZvW:tz Tryz.prog 61=some [.int .i64 0,.int .i64 0,.int .i64 0,.int .i64 0,.int .i64 0,.int .i64 0,.int .i64 0,.int .i64 0,.int .i64 0,.int .i64 0,.int .i64 0,.int .i64 0,.int .i64 0,.int .i64 0,.int .i64 0,.int .i64 0,.int .i64 0,.int .i64 0,.int .i64 0,.int .i64 0,.int .i64 0,.int .i64 0,.int .i64 0,.int .i64 0,.int .i64 0,.int .i64 0,.int .i64 0,.int .i64 0,.int .i64 0,.int .i64 0,.int .i64 0,.int .i64 0,.bool false,.bool false,.bool false,.bool false,.bool false,.bool false,.bool false,.bool false]:=by kernel_rfl
@[go_sem] theorem Zk9:tf Tryz.prog 61 0=some 0:=by kernel_rfl
@[go_sem] theorem Zla:tf Tryz.prog 61 1=some 8:=by kernel_rfl
@[go_sem] theorem Zlb:tf Tryz.prog 61 2=some 16:=by kernel_rfl
@[go_sem] theorem Zlc:tf Tryz.prog 61 3=some 32:=by kernel_rfl
@[go_sem] theorem ZqA:Rk Tryz.prog 61=some [(0,8),(8,8),(16,16),(32,8)]:=by kernel_rfl
@[go_sem] theorem Zld:Yu Tryz.prog 61=none:=by kernel_rfl
@[go_sem] theorem ZvX:tz Tryz.prog 69=some [.int .i64 0,.int .i64 0,.int .i64 0,.int .i64 0,.int .i64 0]:=by kernel_rfl
@[go_sem] theorem Zle:tf Tryz.prog 69 0=some 0:=by kernel_rfl
@[go_sem] theorem Zlf:tf Tryz.prog 69 1=some 1:=by kernel_rfl
@[go_sem] theorem Zlg:tf Tryz.prog 69 2=some 2:=by kernel_rfl
@[go_sem] theorem Zlh:tf Tryz.prog 69 3=some 3:=by kernel_rfl
@[go_sem] theorem Zli:tf Tryz.prog 69 4=some 4:=by kernel_rfl
@[go_sem] theorem ZqB:Rk Tryz.prog 69=some [(0,1),(1,1),(2,1),(3,1),(4,1)]:=by kernel_rfl
@[go_sem] theorem Zlj:Yu Tryz.prog 69=none:=by kernel_rfl
@[go_sem] theorem Zlk:Yu Tryz.prog 70=none:=by kernel_rfl
@[go_sem] theorem ZqC:Jf Tryz.prog 70=some 3:=by kernel_rfl
@[go_sem] theorem ZvY:tn Tryz.prog 75=some 3:=by kernel_rfl
@[go_sem] theorem ZvZ:ta Tryz.prog 75=some true:=by kernel_rfl
@[go_sem] theorem Zv0:tz Tryz.prog 75=some [.int .i64 0,.int .i64 0,.int .i64 0]:=by kernel_rfl
@[go_sem] theorem Zll:tf Tryz.prog 75 0=some 0:=by kernel_rfl
@[go_sem] theorem Zlm:tf Tryz.prog 75 1=some 1:=by kernel_rfl
@[go_sem] theorem Zln:tf Tryz.prog 75 2=some 2:=by kernel_rfl
@[go_sem] theorem ZqD:Rk Tryz.prog 75=some [(0,1),(1,1),(2,1)]:=by kernel_rfl
@[go_sem] theorem Zlo:Yu Tryz.prog 75=none:=by kernel_rfl
@[go_sem] theorem Zv1:tn Tryz.prog 81=some 5:=by kernel_rfl
@[go_sem] theorem Zv2:ta Tryz.prog 81=some true:=by kernel_rfl
@[go_sem] theorem Zlp:tf Tryz.prog 81 0=some 0:=by kernel_rfl
@[go_sem] theorem Zlq:tf Tryz.prog 81 1=some 1:=by kernel_rfl
@[go_sem] theorem Zlr:tf Tryz.prog 81 2=some 2:=by kernel_rfl
@[go_sem] theorem Zls:tf Tryz.prog 81 3=some 3:=by kernel_rfl
@[go_sem] theorem Zlt:tf Tryz.prog 81 4=some 4:=by kernel_rfl
@[go_sem] theorem Zv3:tn Tryz.prog 84=some 11:=by kernel_rfl
@[go_sem] theorem Zv4:ta Tryz.prog 84=some true:=by kernel_rfl
@[go_sem] theorem Zv5:tz Tryz.prog 84=some [.slice none 0 0,.int .i64 0,.int .i64 0,.bool false,.bool false,.bool false,.bool false,.bool false,.bool false,.bool false,.bool false]:=by kernel_rfl
@[go_sem] theorem Zlu:tf Tryz.prog 84 0=some 0:=by kernel_rfl
@[go_sem] theorem Zlv:tf Tryz.prog 84 1=some 1:=by kernel_rfl
@[go_sem] theorem Zlw:tf Tryz.prog 84 2=some 2:=by kernel_rfl
@[go_sem] theorem Zlx:tf Tryz.prog 84 3=some 3:=by kernel_rfl
@[go_sem] theorem ZqE:Rk Tryz.prog 84=some [(0,1),(1,1),(2,1),(3,8)]:=by kernel_rfl
@[go_sem] theorem Zly:Yu Tryz.prog 84=none:=by kernel_rfl
@[go_sem] theorem Zg5:Ia Tryz.prog 103=some .u64:=by kernel_rfl
@[go_sem] theorem ZqF:tn Tryz.prog 110=some 1:=by kernel_rfl
@[go_sem] theorem ZqG:ta Tryz.prog 110=some false:=by kernel_rfl
@[go_sem] theorem ZqH:tn Tryz.prog 111=some 5:=by kernel_rfl
@[go_sem] theorem ZqI:ta Tryz.prog 111=some true:=by kernel_rfl
@[go_sem] theorem ZqJ:tz Tryz.prog 111=some [.pointer none,.pointer none,.pointer none,.pointer none,.pointer none]:=by kernel_rfl
@[go_sem] theorem Zlz:Rk Tryz.prog 111=none:=by kernel_rfl
@[go_sem] theorem Zg6:Yu Tryz.prog 111=some (5,110):=by kernel_rfl
@[go_sem] theorem Zg7:Q4 Tryz.prog 111=false:=by kernel_rfl
@[go_sem] theorem ZqK:tz Tryz.prog 115=some [.int .i64 0,.int .i64 0,.int .i64 0,.int .i64 0]:=by kernel_rfl
@[go_sem] theorem ZlA:Rk Tryz.prog 115=none:=by kernel_rfl
@[go_sem] theorem Zg8:Yu Tryz.prog 115=some (4,3):=by kernel_rfl
@[go_sem] theorem ZlB:Jf Tryz.prog 115=none:=by kernel_rfl
@[go_sem] theorem Zg9:Q4 Tryz.prog 115=false:=by kernel_rfl
@[go_sem] theorem ZqL:tn Tryz.prog 117=some 1:=by kernel_rfl
@[go_sem] theorem ZqM:ta Tryz.prog 117=some false:=by kernel_rfl
@[go_sem] theorem ZqN:tn Tryz.prog 120=some 1:=by kernel_rfl
@[go_sem] theorem ZqO:ta Tryz.prog 120=some false:=by kernel_rfl
@[go_sem] theorem Zha:Yu Tryz.prog 120=none:=by kernel_rfl
@[go_sem] theorem zv:Jf Tryz.prog 120=some 124:=by kernel_rfl
@[go_sem] theorem ZqP:tn Tryz.prog 121=some 1:=by kernel_rfl
@[go_sem] theorem ZqQ:ta Tryz.prog 121=some false:=by kernel_rfl
@[go_sem] theorem Zhb:Yu Tryz.prog 121=none:=by kernel_rfl
@[go_sem] theorem Gy:Jf Tryz.prog 121=some 163:=by kernel_rfl
@[go_sem] theorem Zhc:Q4 Tryz.prog 121=false:=by kernel_rfl
@[go_sem] theorem ZqR:tz Tryz.prog 123=some [.slice none 0 0,.slice none 0 0,.int .i64 0,.bool false,.bool false,.bool false,.bool false,.bool false,.slice none 0 0,.int .i64 0,.int .i64 0,.int .i64 0,.int .i64 0,.int .i64 0,.slice none 0 0]:=by kernel_rfl
@[go_sem] theorem Zhd:tf Tryz.prog 123 0=some 0:=by kernel_rfl
@[go_sem] theorem Zhe:tf Tryz.prog 123 1=some 1:=by kernel_rfl
@[go_sem] theorem Zhf:tf Tryz.prog 123 2=some 2:=by kernel_rfl
@[go_sem] theorem ZlC:Rk Tryz.prog 123=some [(0,1),(1,1),(2,13)]:=by kernel_rfl
@[go_sem] theorem Zhg:Yu Tryz.prog 123=none:=by kernel_rfl
@[go_sem] theorem ZdE:tn Tryz.prog 124=some 1:=by kernel_rfl
@[go_sem] theorem ZdF:tb Tryz.prog 124=some 8:=by kernel_rfl
@[go_sem] theorem ZqS:ta Tryz.prog 124=some false:=by kernel_rfl
@[go_sem] theorem ZdG:tz Tryz.prog 124=some [.pointer none]:=by kernel_rfl
@[go_sem] theorem ZqT:tn Tryz.prog 126=some 2:=by kernel_rfl
@[go_sem] theorem ZqU:ta Tryz.prog 126=some true:=by kernel_rfl
@[go_sem] theorem ZqV:tz Tryz.prog 126=some [.slice none 0 0,.int .i64 0]:=by kernel_rfl
@[go_sem] theorem Zhh:tf Tryz.prog 126 0=some 0:=by kernel_rfl
@[go_sem] theorem Zhi:tf Tryz.prog 126 1=some 1:=by kernel_rfl
@[go_sem] theorem ZlD:Rk Tryz.prog 126=some [(0,1),(1,1)]:=by kernel_rfl
@[go_sem] theorem Zhj:Yu Tryz.prog 126=none:=by kernel_rfl
@[go_sem] theorem ZqW:tn Tryz.prog 128=some 2:=by kernel_rfl
@[go_sem] theorem ZqX:ta Tryz.prog 128=some true:=by kernel_rfl
@[go_sem] theorem ZqY:tz Tryz.prog 128=some [.int .i64 0,.int .i64 0]:=by kernel_rfl
@[go_sem] theorem Zhk:tf Tryz.prog 128 0=some 0:=by kernel_rfl
@[go_sem] theorem Zhl:tf Tryz.prog 128 1=some 1:=by kernel_rfl
@[go_sem] theorem ZlE:Rk Tryz.prog 128=some [(0,1),(1,1)]:=by kernel_rfl
@[go_sem] theorem ZlF:kV Tryz.prog 128=false:=by kernel_rfl
@[go_sem] theorem ZdH:flat Tryz.prog 6 128=some [some .i64,some .i64]:=by kernel_rfl
@[go_sem] theorem Zhm:Yu Tryz.prog 128=none:=by kernel_rfl
@[go_sem] theorem ZdI:tn Tryz.prog 129=some 1:=by kernel_rfl
@[go_sem] theorem ZdJ:tb Tryz.prog 129=some 24:=by kernel_rfl
@[go_sem] theorem ZqZ:ta Tryz.prog 129=some false:=by kernel_rfl
@[go_sem] theorem ZdK:tz Tryz.prog 129=some [.slice none 0 0]:=by kernel_rfl
@[go_sem] theorem Zhn:Yu Tryz.prog 129=none:=by kernel_rfl
@[go_sem] theorem TU:Jf Tryz.prog 129=some 161:=by kernel_rfl
@[go_sem] theorem Zho:Q4 Tryz.prog 129=false:=by kernel_rfl
@[go_sem] theorem Zq0:tn Tryz.prog 131=some 3:=by kernel_rfl
@[go_sem] theorem Zq1:ta Tryz.prog 131=some true:=by kernel_rfl
@[go_sem] theorem Zq2:tz Tryz.prog 131=some [.int .i64 0,.int .i64 0,.slice none 0 0]:=by kernel_rfl
@[go_sem] theorem Zhp:tf Tryz.prog 131 0=some 0:=by kernel_rfl
@[go_sem] theorem Zhq:tf Tryz.prog 131 1=some 2:=by kernel_rfl
@[go_sem] theorem ZlG:Rk Tryz.prog 131=some [(0,2),(2,1)]:=by kernel_rfl
@[go_sem] theorem Zhr:Yu Tryz.prog 131=none:=by kernel_rfl
@[go_sem] theorem Zq3:tn Tryz.prog 132=some 1:=by kernel_rfl
@[go_sem] theorem Zq4:ta Tryz.prog 132=some false:=by kernel_rfl
@[go_sem] theorem Zq5:tn Tryz.prog 133=some 1:=by kernel_rfl
@[go_sem] theorem Zq6:ta Tryz.prog 133=some false:=by kernel_rfl
@[go_sem] theorem Zq7:tz Tryz.prog 135=some [.int .i64 0,.bool false,.slice none 0 0,.int .i64 0,.int .i64 0,.int .i64 0,.slice none 0 0,.int .i64 0,.int .i64 0,.pointer none,.map none,.slice none 0 0,.int .i64 0,.int .i64 0,.int .i64 0,.int .i64 0,.int .i64 0,.int .i64 0,.int .i64 0,.int .i64 0,.int .i64 0,.int .i64 0,.int .i64 0,.int .i64 0,.int .i64 0,.int .i64 0,.int .i64 0,.int .i64 0,.int .i64 0,.int .i64 0,.int .i64 0,.int .i64 0,.int .i64 0,.int .i64 0,.int .i64 0,.int .i64 0,.int .i64 0,.int .i64 0,.int .i64 0,.int .i64 0,.int .i64 0,.int .i64 0,.int .i64 0,.int .i64 0,.bool false,.bool false,.bool false,.bool false,.bool false,.bool false,.bool false,.bool false,.slice none 0 0,.slice none 0 0,.slice none 0 0,.nilFunc,.int .i64 0]:=by kernel_rfl
@[go_sem] theorem Zhs:tf Tryz.prog 135 0=some 0:=by kernel_rfl
@[go_sem] theorem Zht:tf Tryz.prog 135 1=some 1:=by kernel_rfl
@[go_sem] theorem Zhu:tf Tryz.prog 135 2=some 2:=by kernel_rfl
@[go_sem] theorem Zhv:tf Tryz.prog 135 3=some 4:=by kernel_rfl
@[go_sem] theorem Zhw:tf Tryz.prog 135 4=some 7:=by kernel_rfl
@[go_sem] theorem Zhx:tf Tryz.prog 135 5=some 9:=by kernel_rfl
@[go_sem] theorem Zhy:tf Tryz.prog 135 6=some 10:=by kernel_rfl
@[go_sem] theorem Zhz:tf Tryz.prog 135 7=some 11:=by kernel_rfl
@[go_sem] theorem ZhA:tf Tryz.prog 135 8=some 12:=by kernel_rfl
@[go_sem] theorem ZhB:tf Tryz.prog 135 9=some 52:=by kernel_rfl
@[go_sem] theorem ZdL:tf Tryz.prog 135 10=some 53:=by kernel_rfl
@[go_sem] theorem ZdM:tf Tryz.prog 135 11=some 54:=by kernel_rfl
@[go_sem] theorem ZdN:tf Tryz.prog 135 12=some 55:=by kernel_rfl
@[go_sem] theorem ZdO:tf Tryz.prog 135 13=some 56:=by kernel_rfl
@[go_sem] theorem ZlH:Rk Tryz.prog 135=some [(0,1),(1,1),(2,2),(4,3),(7,2),(9,1),(10,1),(11,1),(12,40),(52,1),(53,1),(54,1),(55,1),(56,1)]:=by kernel_rfl
@[go_sem] theorem ZhC:Yu Tryz.prog 135=none:=by kernel_rfl
@[go_sem] theorem ZhD:Yu Tryz.prog 150=none:=by kernel_rfl
@[go_sem] theorem ZlI:Jf Tryz.prog 150=some 155:=by kernel_rfl
@[go_sem] theorem Zq8:tn Tryz.prog 155=some 2:=by kernel_rfl
@[go_sem] theorem Zq9:ta Tryz.prog 155=some true:=by kernel_rfl
@[go_sem] theorem Zra:tz Tryz.prog 155=some [.pointer none,.int .i64 0]:=by kernel_rfl
@[go_sem] theorem ZhE:tf Tryz.prog 155 0=some 0:=by kernel_rfl
@[go_sem] theorem ZhF:tf Tryz.prog 155 1=some 1:=by kernel_rfl
@[go_sem] theorem ZlJ:Rk Tryz.prog 155=some [(0,1),(1,1)]:=by kernel_rfl
@[go_sem] theorem ZhG:Yu Tryz.prog 155=none:=by kernel_rfl
@[go_sem] theorem PB:tn Tryz.prog 161=some 8:=by kernel_rfl
@[go_sem] theorem bQ:tb Tryz.prog 161=some 64:=by kernel_rfl
@[go_sem] theorem Zrb:ta Tryz.prog 161=some true:=by kernel_rfl
@[go_sem] theorem bT:tz Tryz.prog 161=some [.int .i64 0,.int .i64 0,.int .i64 0,.int .i64 0,.int .i64 0,.int .i64 0,.int .i64 0,.int .i64 0]:=by kernel_rfl
@[go_sem] theorem ZhH:tf Tryz.prog 161 0=some 0:=by kernel_rfl
@[go_sem] theorem ZhI:tf Tryz.prog 161 1=some 1:=by kernel_rfl
@[go_sem] theorem ZhJ:tf Tryz.prog 161 2=some 3:=by kernel_rfl
@[go_sem] theorem ZlK:Rk Tryz.prog 161=some [(0,1),(1,2),(3,5)]:=by kernel_rfl
@[go_sem] theorem ZlL:kV Tryz.prog 161=false:=by kernel_rfl
@[go_sem] theorem ZdP:flat Tryz.prog 6 161=some [some .i64,some .i64,some .i64,some .i64,some .i64,some .i64,some .i64,some .i64]:=by kernel_rfl
@[go_sem] theorem ZhK:Yu Tryz.prog 161=none:=by kernel_rfl
@[go_sem] theorem lT:tn Tryz.prog 163=some 14:=by kernel_rfl
@[go_sem] theorem xe:tb Tryz.prog 163=some 128:=by kernel_rfl
@[go_sem] theorem Zrc:ta Tryz.prog 163=some true:=by kernel_rfl
@[go_sem] theorem bU:tz Tryz.prog 163=some [.int .i64 0,.int .i64 0,.int .i64 0,.int .i64 0,.int .i64 0,.int .i64 0,.int .i64 0,.int .i64 0,.int .i64 0,.int .i64 0,.int .i64 0,.int .i64 0,.int .i64 0,.slice none 0 0]:=by kernel_rfl
@[go_sem] theorem ZhL:tf Tryz.prog 163 0=some 0:=by kernel_rfl
@[go_sem] theorem ZhM:tf Tryz.prog 163 1=some 1:=by kernel_rfl
@[go_sem] theorem ZhN:tf Tryz.prog 163 2=some 2:=by kernel_rfl
@[go_sem] theorem ZhO:tf Tryz.prog 163 3=some 3:=by kernel_rfl
@[go_sem] theorem ZhP:tf Tryz.prog 163 4=some 5:=by kernel_rfl
@[go_sem] theorem ZhQ:tf Tryz.prog 163 5=some 13:=by kernel_rfl
@[go_sem] theorem ZlM:Rk Tryz.prog 163=some [(0,1),(1,1),(2,1),(3,2),(5,8),(13,1)]:=by kernel_rfl
@[go_sem] theorem ZhR:Yu Tryz.prog 163=none:=by kernel_rfl
@[go_sem] theorem Zrd:tn Tryz.prog 173=some 64:=by kernel_rfl
@[go_sem] theorem Zre:ta Tryz.prog 173=some true:=by kernel_rfl
@[go_sem] theorem Zrf:tz Tryz.prog 173=some [.int .u8 0,.int .u8 0,.int .u8 0,.int .u8 0,.int .u8 0,.int .u8 0,.int .u8 0,.int .u8 0,.int .u8 0,.int .u8 0,.int .u8 0,.int .u8 0,.int .u8 0,.int .u8 0,.int .u8 0,.int .u8 0,.int .u8 0,.int .u8 0,.int .u8 0,.int .u8 0,.int .u8 0,.int .u8 0,.int .u8 0,.int .u8 0,.int .u8 0,.int .u8 0,.int .u8 0,.int .u8 0,.int .u8 0,.int .u8 0,.int .u8 0,.int .u8 0,.int .u8 0,.int .u8 0,.int .u8 0,.int .u8 0,.int .u8 0,.int .u8 0,.int .u8 0,.int .u8 0,.int .u8 0,.int .u8 0,.int .u8 0,.int .u8 0,.int .u8 0,.int .u8 0,.int .u8 0,.int .u8 0,.int .u8 0,.int .u8 0,.int .u8 0,.int .u8 0,.int .u8 0,.int .u8 0,.int .u8 0,.int .u8 0,.int .u8 0,.int .u8 0,.int .u8 0,.int .u8 0,.int .u8 0,.int .u8 0,.int .u8 0,.int .u8 0]:=by kernel_rfl
@[go_sem] theorem ZhS:Yu Tryz.prog 173=some (64,5):=by kernel_rfl
@[go_sem] theorem ZlN:Jf Tryz.prog 173=none:=by kernel_rfl
@[go_sem] theorem ZhT:Q4 Tryz.prog 173=false:=by kernel_rfl
@[go_sem] theorem Zrg:tn Tryz.prog 175=some 1:=by kernel_rfl
@[go_sem] theorem Zrh:ta Tryz.prog 175=some false:=by kernel_rfl
@[go_sem] theorem ZhU:Ia Tryz.prog 175=some .u32:=by kernel_rfl
@[go_sem] theorem Zri:tn Tryz.prog 178=some 1:=by kernel_rfl
@[go_sem] theorem Zrj:ta Tryz.prog 178=some false:=by kernel_rfl
@[go_sem] theorem Zrk:tn Tryz.prog 179=some 1:=by kernel_rfl
@[go_sem] theorem Zrl:ta Tryz.prog 179=some false:=by kernel_rfl
@[go_sem] theorem Zrm:tz Tryz.prog 181=some [.int .i64 0,.int .i64 0,.map none,.bool false,.map none,.map none]:=by kernel_rfl
@[go_sem] theorem ZhV:tf Tryz.prog 181 0=some 0:=by kernel_rfl
@[go_sem] theorem ZhW:tf Tryz.prog 181 1=some 2:=by kernel_rfl
@[go_sem] theorem ZhX:tf Tryz.prog 181 2=some 3:=by kernel_rfl
@[go_sem] theorem ZhY:tf Tryz.prog 181 3=some 4:=by kernel_rfl
@[go_sem] theorem ZhZ:tf Tryz.prog 181 4=some 5:=by kernel_rfl
@[go_sem] theorem ZlO:Rk Tryz.prog 181=some [(0,2),(2,1),(3,1),(4,1),(5,1)]:=by kernel_rfl
@[go_sem] theorem Zh0:Yu Tryz.prog 181=none:=by kernel_rfl
@[go_sem] theorem Zrn:tn Tryz.prog 189=some 8:=by kernel_rfl
@[go_sem] theorem Zro:ta Tryz.prog 189=some true:=by kernel_rfl
@[go_sem] theorem Zrp:tz Tryz.prog 189=some [.int .u32 0,.int .u32 0,.int .u32 0,.int .u32 0,.int .u32 0,.int .u32 0,.int .u32 0,.int .u32 0]:=by kernel_rfl
@[go_sem] theorem ZlP:Rk Tryz.prog 189=none:=by kernel_rfl
@[go_sem] theorem Zh1:Yu Tryz.prog 189=some (8,175):=by kernel_rfl
@[go_sem] theorem ZlQ:Jf Tryz.prog 189=none:=by kernel_rfl
@[go_sem] theorem Zh2:Q4 Tryz.prog 189=false:=by kernel_rfl
@[go_sem] theorem Zrq:tn Tryz.prog 192=some 16:=by kernel_rfl
@[go_sem] theorem Zrr:ta Tryz.prog 192=some true:=by kernel_rfl
@[go_sem] theorem Zrs:tz Tryz.prog 192=some [.int .u32 0,.int .u32 0,.int .u32 0,.int .u32 0,.int .u32 0,.int .u32 0,.int .u32 0,.int .u32 0,.int .u32 0,.int .u32 0,.int .u32 0,.int .u32 0,.int .u32 0,.int .u32 0,.int .u32 0,.int .u32 0]:=by kernel_rfl
@[go_sem] theorem ZlR:Rk Tryz.prog 192=none:=by kernel_rfl
@[go_sem] theorem Zh3:Yu Tryz.prog 192=some (16,175):=by kernel_rfl
@[go_sem] theorem ZlS:Jf Tryz.prog 192=none:=by kernel_rfl
@[go_sem] theorem Zrt:tz Tryz.prog 206=some [.int .u32 0,.int .u32 0,.int .u32 0,.int .u32 0,.int .u32 0,.int .u32 0,.int .u32 0,.int .u32 0,.int .u32 0,.int .u32 0,.int .u32 0,.int .u32 0,.int .u32 0,.int .u32 0,.int .u32 0,.int .u32 0,.int .u32 0,.int .u32 0,.int .u32 0,.int .u32 0,.int .u32 0,.int .u32 0,.int .u32 0,.int .u32 0,.int .u32 0,.int .u32 0,.int .u32 0,.int .u32 0,.int .u32 0,.int .u32 0,.int .u32 0,.int .u32 0,.int .u32 0,.int .u32 0,.int .u32 0,.int .u32 0,.int .u32 0,.int .u32 0,.int .u32 0,.int .u32 0,.int .u32 0,.int .u32 0,.int .u32 0,.int .u32 0,.int .u32 0,.int .u32 0,.int .u32 0,.int .u32 0,.int .u32 0,.int .u32 0,.int .u32 0,.int .u32 0,.int .u32 0,.int .u32 0,.int .u32 0,.int .u32 0,.int .u32 0,.int .u32 0,.int .u32 0,.int .u32 0,.int .u32 0,.int .u32 0,.int .u32 0,.int .u32 0]:=by kernel_rfl
@[go_sem] theorem Zh4:Yu Tryz.prog 206=some (64,175):=by kernel_rfl
@[go_sem] theorem ZlT:Jf Tryz.prog 206=none:=by kernel_rfl
@[go_sem] theorem Zru:tz Tryz.prog 208=some [.int .i64 0,.int .i64 0,.int .i64 0]:=by kernel_rfl
@[go_sem] theorem ZlU:Rk Tryz.prog 208=none:=by kernel_rfl
@[go_sem] theorem Zh5:Yu Tryz.prog 208=some (3,3):=by kernel_rfl
@[go_sem] theorem Zh6:Q4 Tryz.prog 208=false:=by kernel_rfl
@[go_sem] theorem Zrv:tn Tryz.prog 209=some 1:=by kernel_rfl
@[go_sem] theorem Zrw:ta Tryz.prog 209=some false:=by kernel_rfl
@[go_sem] theorem Zh7:Ia Tryz.prog 209=some .u64:=by kernel_rfl
@[go_sem] theorem Zrx:tn Tryz.prog 211=some 5:=by kernel_rfl
@[go_sem] theorem Zry:ta Tryz.prog 211=some true:=by kernel_rfl
@[go_sem] theorem Zrz:tz Tryz.prog 211=some [.int .u64 0,.int .u64 0,.int .u64 0,.int .u64 0,.int .u64 0]:=by kernel_rfl
@[go_sem] theorem ZlV:Rk Tryz.prog 211=none:=by kernel_rfl
@[go_sem] theorem Zh8:Yu Tryz.prog 211=some (5,209):=by kernel_rfl
@[go_sem] theorem ZlW:Jf Tryz.prog 211=none:=by kernel_rfl
@[go_sem] theorem Zh9:Q4 Tryz.prog 211=false:=by kernel_rfl
@[go_sem] theorem ZrA:tz Tryz.prog 213=some [.int .u8 0,.int .u8 0,.int .u8 0,.int .u8 0,.int .u8 0,.int .u8 0,.int .u8 0,.int .u8 0,.int .u8 0,.int .u8 0,.int .u8 0,.int .u8 0,.int .u8 0,.int .u8 0,.int .u8 0,.int .u8 0,.int .u8 0]:=by kernel_rfl
@[go_sem] theorem Zia:Yu Tryz.prog 213=some (17,5):=by kernel_rfl
@[go_sem] theorem ZlX:Jf Tryz.prog 213=none:=by kernel_rfl
@[go_sem] theorem Zib:Q4 Tryz.prog 213=false:=by kernel_rfl
@[go_sem] theorem ZrB:tn Tryz.prog 219=some 0:=by kernel_rfl
@[go_sem] theorem ZrC:tz Tryz.prog 219=some []:=by kernel_rfl
@[go_sem] theorem ZlY:Rk Tryz.prog 219=some []:=by kernel_rfl
@[go_sem] theorem Zic:Yu Tryz.prog 219=none:=by kernel_rfl
@[go_sem] theorem Zid:Yu Tryz.prog 245=none:=by kernel_rfl
@[go_sem] theorem zw:Jf Tryz.prog 245=some 129:=by kernel_rfl
@[go_sem] theorem Zv6:goes Tryz.prog 16=true:=by kernel_rfl
@[go_sem] theorem Zv7:goes Tryz.prog 17=true:=by kernel_rfl
@[go_sem] theorem Zv8:goes Tryz.prog 18=true:=by kernel_rfl
@[go_sem] theorem Zv9:goes Tryz.prog 19=true:=by kernel_rfl
@[go_sem] theorem Zwa:goes Tryz.prog 20=true:=by kernel_rfl
@[go_sem] theorem Zwb:goes Tryz.prog 21=true:=by kernel_rfl
@[go_sem] theorem Zwc:goes Tryz.prog 27=true:=by kernel_rfl
@[go_sem] theorem Zwd:goes Tryz.prog 28=true:=by kernel_rfl
@[go_sem] theorem Zwe:goes Tryz.prog 29=true:=by kernel_rfl
@[go_sem] theorem Zwf:goes Tryz.prog 30=true:=by kernel_rfl
@[go_sem] theorem Zwg:goes Tryz.prog 31=true:=by kernel_rfl
@[go_sem] theorem Zwh:goes Tryz.prog 32=true:=by kernel_rfl
@[go_sem] theorem Zwi:goes Tryz.prog 33=true:=by kernel_rfl
@[go_sem] theorem Zwj:goes Tryz.prog 34=true:=by kernel_rfl
@[go_sem] theorem Zwk:goes Tryz.prog 35=true:=by kernel_rfl
@[go_sem] theorem Zwl:goes Tryz.prog 36=true:=by kernel_rfl
@[go_sem] theorem Zwm:goes Tryz.prog 37=true:=by kernel_rfl
@[go_sem] theorem Zwn:goes Tryz.prog 38=true:=by kernel_rfl
@[go_sem] theorem Zwo:goes Tryz.prog 40=true:=by kernel_rfl
@[go_sem] theorem Zwp:goes Tryz.prog 41=true:=by kernel_rfl
@[go_sem] theorem Zwq:goes Tryz.prog 42=true:=by kernel_rfl
@[go_sem] theorem Zwr:goes Tryz.prog 43=true:=by kernel_rfl
@[go_sem] theorem Zws:goes Tryz.prog 44=true:=by kernel_rfl
@[go_sem] theorem Zwt:goes Tryz.prog 45=true:=by kernel_rfl
@[go_sem] theorem Zwu:goes Tryz.prog 46=true:=by kernel_rfl
@[go_sem] theorem Zwv:goes Tryz.prog 47=true:=by kernel_rfl
@[go_sem] theorem Zww:goes Tryz.prog 48=true:=by kernel_rfl
@[go_sem] theorem Zwx:goes Tryz.prog 49=true:=by kernel_rfl
@[go_sem] theorem Zwy:goes Tryz.prog 50=true:=by kernel_rfl
@[go_sem] theorem Zwz:goes Tryz.prog 51=true:=by kernel_rfl
@[go_sem] theorem ZwA:goes Tryz.prog 52=true:=by kernel_rfl
@[go_sem] theorem ZwB:goes Tryz.prog 53=true:=by kernel_rfl
@[go_sem] theorem ZwC:goes Tryz.prog 54=true:=by kernel_rfl
@[go_sem] theorem ZwD:goes Tryz.prog 55=true:=by kernel_rfl
@[go_sem] theorem ZwE:goes Tryz.prog 56=true:=by kernel_rfl
@[go_sem] theorem ZwF:goes Tryz.prog 57=true:=by kernel_rfl
@[go_sem] theorem ZwG:goes Tryz.prog 58=true:=by kernel_rfl
@[go_sem] theorem ZwH:goes Tryz.prog 59=true:=by kernel_rfl
@[go_sem] theorem ZwI:goes Tryz.prog 60=true:=by kernel_rfl
@[go_sem] theorem ZwJ:goes Tryz.prog 61=true:=by kernel_rfl
@[go_sem] theorem ZwK:goes Tryz.prog 62=true:=by kernel_rfl
@[go_sem] theorem ZwL:goes Tryz.prog 63=true:=by kernel_rfl
@[go_sem] theorem ZwM:goes Tryz.prog 64=true:=by kernel_rfl
@[go_sem] theorem ZwN:goes Tryz.prog 65=true:=by kernel_rfl
@[go_sem] theorem ZwO:goes Tryz.prog 66=true:=by kernel_rfl
@[go_sem] theorem ZwP:goes Tryz.prog 67=true:=by kernel_rfl
@[go_sem] theorem ZwQ:goes Tryz.prog 68=true:=by kernel_rfl
@[go_sem] theorem ZwR:goes Tryz.prog 69=true:=by kernel_rfl
@[go_sem] theorem ZwS:goes Tryz.prog 70=true:=by kernel_rfl
@[go_sem] theorem ZwT:goes Tryz.prog 71=true:=by kernel_rfl
@[go_sem] theorem ZwU:goes Tryz.prog 72=true:=by kernel_rfl
@[go_sem] theorem ZwV:goes Tryz.prog 73=true:=by kernel_rfl
@[go_sem] theorem ZwW:goes Tryz.prog 74=true:=by kernel_rfl
@[go_sem] theorem ZwX:goes Tryz.prog 75=true:=by kernel_rfl
@[go_sem] theorem ZwY:goes Tryz.prog 76=true:=by kernel_rfl
@[go_sem] theorem ZwZ:goes Tryz.prog 77=true:=by kernel_rfl
@[go_sem] theorem Zw0:goes Tryz.prog 78=true:=by kernel_rfl
@[go_sem] theorem Zw1:goes Tryz.prog 79=true:=by kernel_rfl
@[go_sem] theorem Zw2:goes Tryz.prog 80=true:=by kernel_rfl
@[go_sem] theorem Zw3:goes Tryz.prog 81=true:=by kernel_rfl
@[go_sem] theorem Zw4:goes Tryz.prog 82=true:=by kernel_rfl
@[go_sem] theorem Zw5:goes Tryz.prog 83=true:=by kernel_rfl
@[go_sem] theorem Zw6:goes Tryz.prog 84=true:=by kernel_rfl
@[go_sem] theorem Zw7:goes Tryz.prog 85=true:=by kernel_rfl
@[go_sem] theorem Zw8:goes Tryz.prog 86=true:=by kernel_rfl
@[go_sem] theorem Zw9:goes Tryz.prog 87=true:=by kernel_rfl
@[go_sem] theorem Zxa:goes Tryz.prog 88=true:=by kernel_rfl
@[go_sem] theorem Zxb:goes Tryz.prog 89=true:=by kernel_rfl
@[go_sem] theorem Zxc:goes Tryz.prog 90=true:=by kernel_rfl
@[go_sem] theorem Zxd:goes Tryz.prog 91=true:=by kernel_rfl
@[go_sem] theorem Zxe:goes Tryz.prog 92=true:=by kernel_rfl
@[go_sem] theorem Zxf:goes Tryz.prog 93=true:=by kernel_rfl
@[go_sem] theorem Zxg:goes Tryz.prog 94=true:=by kernel_rfl
@[go_sem] theorem Zxh:goes Tryz.prog 95=true:=by kernel_rfl
@[go_sem] theorem Zxi:goes Tryz.prog 96=true:=by kernel_rfl
@[go_sem] theorem Zxj:goes Tryz.prog 97=true:=by kernel_rfl
@[go_sem] theorem Zxk:goes Tryz.prog 98=true:=by kernel_rfl
@[go_sem] theorem Zxl:goes Tryz.prog 99=true:=by kernel_rfl
@[go_sem] theorem ZrD:goes Tryz.prog 100=true:=by kernel_rfl
@[go_sem] theorem ZrE:goes Tryz.prog 101=true:=by kernel_rfl
@[go_sem] theorem ZrF:goes Tryz.prog 102=true:=by kernel_rfl
@[go_sem] theorem ZrG:goes Tryz.prog 103=true:=by kernel_rfl
@[go_sem] theorem ZrH:goes Tryz.prog 104=true:=by kernel_rfl
@[go_sem] theorem ZrI:goes Tryz.prog 105=true:=by kernel_rfl
@[go_sem] theorem ZrJ:goes Tryz.prog 106=true:=by kernel_rfl
@[go_sem] theorem ZrK:goes Tryz.prog 107=true:=by kernel_rfl
@[go_sem] theorem ZrL:goes Tryz.prog 108=true:=by kernel_rfl
@[go_sem] theorem ZrM:goes Tryz.prog 109=true:=by kernel_rfl
@[go_sem] theorem ZrN:goes Tryz.prog 110=true:=by kernel_rfl
@[go_sem] theorem ZrO:goes Tryz.prog 111=true:=by kernel_rfl
@[go_sem] theorem ZrP:goes Tryz.prog 112=true:=by kernel_rfl
@[go_sem] theorem ZrQ:goes Tryz.prog 113=true:=by kernel_rfl
@[go_sem] theorem ZrR:goes Tryz.prog 114=true:=by kernel_rfl
@[go_sem] theorem ZrS:goes Tryz.prog 115=true:=by kernel_rfl
@[go_sem] theorem ZrT:goes Tryz.prog 116=true:=by kernel_rfl
@[go_sem] theorem ZrU:goes Tryz.prog 117=true:=by kernel_rfl
@[go_sem] theorem ZrV:goes Tryz.prog 118=true:=by kernel_rfl
@[go_sem] theorem ZrW:goes Tryz.prog 119=true:=by kernel_rfl
@[go_sem] theorem ZrX:goes Tryz.prog 120=true:=by kernel_rfl
@[go_sem] theorem ZrY:goes Tryz.prog 121=true:=by kernel_rfl
@[go_sem] theorem ZrZ:goes Tryz.prog 123=true:=by kernel_rfl
@[go_sem] theorem Zr0:goes Tryz.prog 125=true:=by kernel_rfl
@[go_sem] theorem Zr1:goes Tryz.prog 126=true:=by kernel_rfl
@[go_sem] theorem Zr2:goes Tryz.prog 128=true:=by kernel_rfl
@[go_sem] theorem Zr3:goes Tryz.prog 129=true:=by kernel_rfl
@[go_sem] theorem Zr4:goes Tryz.prog 132=true:=by kernel_rfl
@[go_sem] theorem Zr5:goes Tryz.prog 133=true:=by kernel_rfl
@[go_sem] theorem Zr6:goes Tryz.prog 134=true:=by kernel_rfl
@[go_sem] theorem Zr7:goes Tryz.prog 135=true:=by kernel_rfl
@[go_sem] theorem Zr8:goes Tryz.prog 136=true:=by kernel_rfl
@[go_sem] theorem Zr9:goes Tryz.prog 137=true:=by kernel_rfl
@[go_sem] theorem Zsa:goes Tryz.prog 138=true:=by kernel_rfl
@[go_sem] theorem Zsb:goes Tryz.prog 139=true:=by kernel_rfl
@[go_sem] theorem Zsc:goes Tryz.prog 140=true:=by kernel_rfl
@[go_sem] theorem Zsd:goes Tryz.prog 141=true:=by kernel_rfl
@[go_sem] theorem Zse:goes Tryz.prog 142=true:=by kernel_rfl
@[go_sem] theorem Zsf:goes Tryz.prog 143=true:=by kernel_rfl
@[go_sem] theorem Zsg:goes Tryz.prog 144=true:=by kernel_rfl
@[go_sem] theorem Zsh:goes Tryz.prog 145=true:=by kernel_rfl
@[go_sem] theorem Zsi:goes Tryz.prog 147=true:=by kernel_rfl
@[go_sem] theorem Zsj:goes Tryz.prog 148=true:=by kernel_rfl
@[go_sem] theorem Zsk:goes Tryz.prog 149=true:=by kernel_rfl
@[go_sem] theorem Zsl:goes Tryz.prog 150=true:=by kernel_rfl
@[go_sem] theorem Zsm:goes Tryz.prog 151=true:=by kernel_rfl
@[go_sem] theorem Zsn:goes Tryz.prog 152=true:=by kernel_rfl
@[go_sem] theorem Zso:goes Tryz.prog 153=true:=by kernel_rfl
def Sz:List Nat:=[104,97,114,110,101,115,115,32,49,56,50,49,49,53,53,51,52,100,101,101,100,98,98,102,102,50,56,48,51,53,56,49,56,102,55,102,49,56,52,102,48,101,49,98,50,102,100,56,101,52,54,97,99,101,51,97,51,55,54,53,54,53,50,97,54,52,102,100,97,49,51,102,32,99,117,116,32,97,116,32,99,111,110,99,108,97,118,101,47,99,111,110,99,108,97,118,101,116,111,112,46,84,111,112,71,114,111,119,115,32,99,111,110,99,108,97,118,101,47,99,111,110,99,108,97,118,101,116,111,112,46,84,111,112,70,111,114,103,101,100,32,99,111,110,99,108,97,118,101,47,99,111,110,99,108,97,118,101,116,111,112,46,84,111,112,76,101,97,100,101,114,108,101,115,115,32,99,111,110,99,108,97,118,101,47,99,111,110,99,108,97,118,101,116,111,112,46,84,111,112,66,97,100,32,99,111,110,99,108,97,118,101,47,99,111,110,99,108,97,118,101,116,111,112,46,84,111,112,67,104,97,105,110,115,32,99,111,110,99,108,97,118,101,47,99,111,110,99,108,97,118,101,116,111,112,46,84,111,112,82,101,97,100,115,32,99,111,110,99,108,97,118,101,47,99,111,110,99,108,97,118,101,116,111,112,46,84,111,112,83,101,116,116,108,101,100,32,99,111,110,99,108,97,118,101,47,99,111,110,99,108,97,118,101,116,111,112,46,84,111,112,83,101,114,118,101,100,32,99,111,110,99,108,97,118,101,47,99,111,110,99,108,97,118,101,116,111,112,46,84,111,112,84,111,108,100,32,99,111,110,99,108,97,118,101,47,99,111,110,99,108,97,118,101,116,111,112,46,84,111,112,67,114,97,115,104,32,99,111,110,99,108,97,118,101,47,99,111,110,99,108,97,118,101,116,111,112,46,84,111,112,79,110,99,101,32,99,111,110,99,108,97,118,101,47,99,111,110,99,108,97,118,101,116,111,112,46,84,111,112,67,108,105,101,110,116,115,32,99,111,110,99,108,97,118,101,47,99,111,110,99,108,97,118,101,116,111,112,46,84,111,112,82,101,118,111,107,101,100]
theorem BP:∃rest,Go.behindMainWord (Go.wordsSigns Tryz.prog.initOrder.toList) = "cut".toList :: rest:=
 fi (L:=Sz.map Char.ofNat) (by kernel_rfl) (by kernel_rfl)
theorem lU:Tryz.prog.make=some .cut:=BP.elim fun _ h=>kT h
theorem BQ:Tryz.prog.liftsFinal=false:=BP.elim fun _ h=>fg h
theorem BR:Tryz.prog.mayEnter=true:=BP.elim fun _ h=>fh h (by kernel_rfl) (by kernel_rfl) (by kernel_rfl)
theorem Lw:Go.ownKnob Tryz.prog.godebug=none:=by kernel_rfl
theorem Lx:Go.laidOutB Tryz.prog=true:=by kernel_rfl
theorem mixed:Tryz.prog.follows .mixedOrders=true:=by kernel_rfl
end Go.Proofs.YtkfhncfkagcamaaGreatDoor

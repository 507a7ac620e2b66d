/- Part Ty. -/
import Derived.Test.YtdpjmhgbmhjniaaGreatDoorRows
import Derived.Test.YtdpjmhgbmhjniaaGreatDoorV9
import Derived.Test.YtdpjmhgbmhjniaaGreatDoorW3
import Derived.KernelRfl
open Go.Value renaming int→c,bool→k,slice→m,pointer→n
open Go.IntKind renaming i64→d,u32→i,u8→j,u64→o
open Go.Proofs.Tryz renaming prog→a
open Option renaming some→e,none→l
namespace Go.Proofs.YtdpjmhgbmhjniaaGreatDoor
open Go.V
set_option maxRecDepth 100000
@[go_sem] theorem tn1:tn a 1=e 1:=po
@[go_sem] theorem tb1:tb a 1=e 8:=po
@[go_sem] theorem ta1:ta a 1=e false:=po
@[go_sem] theorem tz1:tz a 1=e [.nilFunc]:=po
@[go_sem] theorem aV:tb a 2=e 8:=po
@[go_sem] theorem tn3:tn a 3=e 1:=po
@[go_sem] theorem tb3:tb a 3=e 8:=po
@[go_sem] theorem ta3:ta a 3=e false:=po
@[go_sem] theorem tz3:tz a 3=e [c d 0]:=po
@[go_sem] theorem ZtC:HJ a 3=e d:=po
@[go_sem] theorem tn4:tn a 4=e 1:=po
@[go_sem] theorem tb4:tb a 4=e 1:=po
@[go_sem] theorem ta4:ta a 4=e false:=po
@[go_sem] theorem WS:tn a 5=e 1:=po
@[go_sem] theorem VB:tb a 5=e 1:=po
@[go_sem] theorem ta5:ta a 5=e false:=po
@[go_sem] theorem VC:tz a 5=e [c j 0]:=po
@[go_sem] theorem ZtD:HJ a 5=e j:=po
@[go_sem] theorem tn9:tn a 9=e 1:=po
@[go_sem] theorem ta9:ta a 9=e false:=po
@[go_sem] theorem ZtE:YO a 9=l:=po
@[go_sem] theorem Zzk:Js a 9=l:=po
@[go_sem] theorem ZtF:Uf a 9=true:=po
@[go_sem] theorem ZnF:YO a 22=l:=po
@[go_sem] theorem ZtG:Js a 22=e 70:=po
@[go_sem] theorem Zzl:tn a 23=e 1:=po
@[go_sem] theorem Zzm:ta a 23=e false:=po
@[go_sem] theorem Zzn:tz a 23=e [m l 0 0]:=po
@[go_sem] theorem ZnG:YO a 23=l:=po
@[go_sem] theorem Zbb:Js a 23=e 41:=po
@[go_sem] theorem Zzo:tn a 25=e 5:=po
@[go_sem] theorem Zzp:ta a 25=e true:=po
@[go_sem] theorem ZtH:uP a 25=false:=po
@[go_sem] theorem Zkm:flat a 6 25=e [l,l,l,l,l]:=po
@[go_sem] theorem ZnH:YO a 25=e (5,4):=po
@[go_sem] theorem ZtI:Js a 25=l:=po
@[go_sem] theorem Zzq:tn a 26=e 1:=po
@[go_sem] theorem Zzr:ta a 26=e false:=po
@[go_sem] theorem ZnI:YO a 26=l:=po
@[go_sem] theorem ZgD:Js a 26=e 35:=po
@[go_sem] theorem Zzs:tn a 27=e 5:=po
@[go_sem] theorem Zzt:ta a 27=e true:=po
@[go_sem] theorem ZtJ:uP a 27=false:=po
@[go_sem] theorem Zkn:flat a 6 27=e [e d,e d,e d,e d,e d]:=po
@[go_sem] theorem ZnJ:YO a 27=e (5,3):=po
@[go_sem] theorem ZtK:Js a 27=l:=po
@[go_sem] theorem Zzu:tn a 28=e 1:=po
@[go_sem] theorem Zzv:ta a 28=e false:=po
@[go_sem] theorem ZgE:Js a 28=e 50:=po
@[go_sem] theorem Zzw:tn a 30=e 13:=po
@[go_sem] theorem Zzx:ta a 30=e true:=po
@[go_sem] theorem Zzy:tz a 30=e [c d 0,k false,k false,k false,k false,k false,m l 0 0,c d 0,c d 0,c d 0,c d 0,c d 0,m l 0 0]:=po
@[go_sem] theorem ZnK:tf a 30 0=e 0:=po
@[go_sem] theorem ZnL:tf a 30 1=e 1:=po
@[go_sem] theorem ZnM:tf a 30 2=e 6:=po
@[go_sem] theorem ZnN:tf a 30 3=e 7:=po
@[go_sem] theorem ZnO:tf a 30 4=e 12:=po
@[go_sem] theorem ZtL:PO a 30=e [(0,1),(1,5),(6,1),(7,5),(12,1)]:=po
@[go_sem] theorem ZnP:YO a 30=l:=po
@[go_sem] theorem ZnQ:tn a 35=e 1:=po
@[go_sem] theorem ZnR:tb a 35=e 24:=po
@[go_sem] theorem Zzz:ta a 35=e false:=po
@[go_sem] theorem ZnS:tz a 35=e [m l 0 0]:=po
@[go_sem] theorem ZnT:YO a 35=l:=po
@[go_sem] theorem Ce:Js a 35=e 43:=po
@[go_sem] theorem ZnU:Uf a 35=false:=po
@[go_sem] theorem ZzA:tn a 39=e 1:=po
@[go_sem] theorem ZzB:ta a 39=e false:=po
@[go_sem] theorem ZnV:YO a 39=l:=po
@[go_sem] theorem YN:Js a 39=e 5:=po
@[go_sem] theorem ZnW:Uf a 39=false:=po
@[go_sem] theorem ZgF:tn a 41=e 5:=po
@[go_sem] theorem ZgG:tb a 41=e 56:=po
@[go_sem] theorem ZzC:ta a 41=e true:=po
@[go_sem] theorem ZgH:tz a 41=e [c d 0,c d 0,c d 0,c d 0,m l 0 0]:=po
@[go_sem] theorem ZnX:tf a 41 0=e 0:=po
@[go_sem] theorem ZnY:tf a 41 1=e 1:=po
@[go_sem] theorem ZnZ:tf a 41 2=e 2:=po
@[go_sem] theorem Zn0:tf a 41 3=e 3:=po
@[go_sem] theorem Zn1:tf a 41 4=e 4:=po
@[go_sem] theorem ZtM:PO a 41=e [(0,1),(1,1),(2,1),(3,1),(4,1)]:=po
@[go_sem] theorem Zn2:YO a 41=l:=po
@[go_sem] theorem ZcA:tn a 43=e 5:=po
@[go_sem] theorem ZgI:tb a 43=e 40:=po
@[go_sem] theorem ZzD:ta a 43=e true:=po
@[go_sem] theorem pI:tz a 43=e [c d 0,c d 0,c d 0,c d 0,c d 0]:=po
@[go_sem] theorem Zn3:tf a 43 0=e 0:=po
@[go_sem] theorem Zn4:tf a 43 1=e 1:=po
@[go_sem] theorem Zn5:tf a 43 2=e 2:=po
@[go_sem] theorem Zn6:tf a 43 3=e 3:=po
@[go_sem] theorem Zn7:tf a 43 4=e 4:=po
@[go_sem] theorem ZtN:PO a 43=e [(0,1),(1,1),(2,1),(3,1),(4,1)]:=po
@[go_sem] theorem ZtO:uP a 43=false:=po
@[go_sem] theorem Zko:flat a 6 43=e [e d,e d,e d,e d,e d]:=po
@[go_sem] theorem Zn8:YO a 43=l:=po
@[go_sem] theorem ZzE:tn a 44=e 1:=po
@[go_sem] theorem ZzF:ta a 44=e false:=po
@[go_sem] theorem ZzG:tz a 44=e [c d 0]:=po
@[go_sem] theorem ZzH:tn a 48=e 2:=po
@[go_sem] theorem ZzI:ta a 48=e true:=po
@[go_sem] theorem ZzJ:tz a 48=e [c d 0,c d 0]:=po
@[go_sem] theorem ZtP:PO a 48=e [(0,1),(1,1)]:=po
@[go_sem] theorem ZtQ:uP a 48=false:=po
@[go_sem] theorem Zkp:flat a 6 48=e [e d,e d]:=po
@[go_sem] theorem Zn9:YO a 48=l:=po
@[go_sem] theorem Zoa:tn a 50=e 5:=po
@[go_sem] theorem Zob:tb a 50=e 40:=po
@[go_sem] theorem Zoc:tz a 50=e [c d 0,c d 0,c d 0,c d 0,c d 0]:=po
@[go_sem] theorem ZtR:PO a 50=e [(0,1),(1,1),(2,1),(3,2)]:=po
@[go_sem] theorem Zod:YO a 50=l:=po
@[go_sem] theorem ZzK:tn a 54=e 8:=po
@[go_sem] theorem ZzL:ta a 54=e true:=po
@[go_sem] theorem Zoe:YO a 54=e (8,3):=po
@[go_sem] theorem ZtS:Js a 54=l:=po
@[go_sem] theorem Zof:Uf a 54=false:=po
@[go_sem] theorem Zog:YO a 55=e (8,48):=po
@[go_sem] theorem ZtT:Js a 55=l:=po
@[go_sem] theorem ZzM:tn a 56=e 8:=po
@[go_sem] theorem ZzN:ta a 56=e true:=po
@[go_sem] theorem ZzO:tz a 56=e [k false,k false,k false,k false,k false,k false,k false,k false]:=po
@[go_sem] theorem ZtU:PO a 56=l:=po
@[go_sem] theorem Zoh:YO a 56=e (8,4):=po
@[go_sem] theorem ZtV:Js a 56=l:=po
@[go_sem] theorem Zoi:Uf a 56=false:=po
@[go_sem] theorem ZzP:tn a 58=e 40:=po
@[go_sem] theorem ZzQ:ta a 58=e true:=po
@[go_sem] theorem ZzR:tz a 58=e [c d 0,c d 0,c d 0,c d 0,c d 0,c d 0,c d 0,c d 0,c d 0,c d 0,c d 0,c d 0,c d 0,c d 0,c d 0,c d 0,c d 0,c d 0,c d 0,c d 0,c d 0,c d 0,c d 0,c d 0,c d 0,c d 0,c d 0,c d 0,c d 0,c d 0,c d 0,c d 0,k false,k false,k false,k false,k false,k false,k false,k false]:=po
@[go_sem] theorem Zoj:tf a 58 0=e 0:=po
@[go_sem] theorem Zok:tf a 58 1=e 8:=po
@[go_sem] theorem Zol:tf a 58 2=e 16:=po
@[go_sem] theorem Zom:tf a 58 3=e 32:=po
@[go_sem] theorem ZtW:PO a 58=e [(0,8),(8,8),(16,16),(32,8)]:=po
@[go_sem] theorem Zon:YO a 58=l:=po
@[go_sem] theorem ZzS:tn a 70=e 5:=po
@[go_sem] theorem ZzT:ta a 70=e true:=po
@[go_sem] theorem Zoo:tf a 70 0=e 0:=po
@[go_sem] theorem Zop:tf a 70 1=e 1:=po
@[go_sem] theorem Zoq:tf a 70 2=e 2:=po
@[go_sem] theorem Zor:tf a 70 3=e 3:=po
@[go_sem] theorem Zos:tf a 70 4=e 4:=po
@[go_sem] theorem ZzU:tn a 76=e 11:=po
@[go_sem] theorem ZzV:ta a 76=e true:=po
@[go_sem] theorem ZzW:tz a 76=e [m l 0 0,c d 0,c d 0,k false,k false,k false,k false,k false,k false,k false,k false]:=po
@[go_sem] theorem Zot:tf a 76 0=e 0:=po
@[go_sem] theorem Zou:tf a 76 1=e 1:=po
@[go_sem] theorem Zov:tf a 76 2=e 2:=po
@[go_sem] theorem Zow:tf a 76 3=e 3:=po
@[go_sem] theorem ZtX:PO a 76=e [(0,1),(1,1),(2,1),(3,8)]:=po
@[go_sem] theorem Zox:YO a 76=l:=po
@[go_sem] theorem ZzX:tn a 80=e 3:=po
@[go_sem] theorem ZzY:ta a 80=e true:=po
@[go_sem] theorem ZzZ:tz a 80=e [c d 0,c d 0,c d 0]:=po
@[go_sem] theorem Zoy:tf a 80 0=e 0:=po
@[go_sem] theorem Zoz:tf a 80 1=e 1:=po
@[go_sem] theorem ZoA:tf a 80 2=e 2:=po
@[go_sem] theorem ZtY:PO a 80=e [(0,1),(1,1),(2,1)]:=po
@[go_sem] theorem ZoB:YO a 80=l:=po
@[go_sem] theorem Zz0:tn a 90=e 1:=po
@[go_sem] theorem Zz1:ta a 90=e false:=po
@[go_sem] theorem ZcB:tn a 92=e 2:=po
@[go_sem] theorem Zz2:tz a 92=e [n l,m l 0 0]:=po
@[go_sem] theorem ZoC:tf a 92 0=e 0:=po
@[go_sem] theorem ZoD:tf a 92 1=e 1:=po
@[go_sem] theorem ZtZ:tn a 105=e 1:=po
@[go_sem] theorem Zt0:ta a 105=e false:=po
@[go_sem] theorem Zt1:tn a 108=e 1:=po
@[go_sem] theorem Zt2:ta a 108=e false:=po
@[go_sem] theorem Zkq:YO a 108=l:=po
@[go_sem] theorem ZcC:Js a 108=e 112:=po
@[go_sem] theorem Zt3:tn a 109=e 1:=po
@[go_sem] theorem Zt4:ta a 109=e false:=po
@[go_sem] theorem Zkr:YO a 109=l:=po
@[go_sem] theorem Eo:Js a 109=e 170:=po
@[go_sem] theorem Zks:Uf a 109=false:=po
@[go_sem] theorem Zt5:tz a 111=e [m l 0 0,m l 0 0,c d 0,k false,k false,k false,k false,k false,m l 0 0,c d 0,c d 0,c d 0,c d 0,c d 0,m l 0 0]:=po
@[go_sem] theorem Zkt:tf a 111 0=e 0:=po
@[go_sem] theorem Zku:tf a 111 1=e 1:=po
@[go_sem] theorem Zkv:tf a 111 2=e 2:=po
@[go_sem] theorem ZoE:PO a 111=e [(0,1),(1,1),(2,13)]:=po
@[go_sem] theorem Zkw:YO a 111=l:=po
@[go_sem] theorem ZgJ:tn a 112=e 1:=po
@[go_sem] theorem ZgK:tb a 112=e 8:=po
@[go_sem] theorem Zt6:ta a 112=e false:=po
@[go_sem] theorem ZgL:tz a 112=e [n l]:=po
@[go_sem] theorem Zt7:tn a 114=e 2:=po
@[go_sem] theorem Zt8:ta a 114=e true:=po
@[go_sem] theorem Zt9:tz a 114=e [m l 0 0,c d 0]:=po
@[go_sem] theorem Zkx:tf a 114 0=e 0:=po
@[go_sem] theorem Zky:tf a 114 1=e 1:=po
@[go_sem] theorem ZoF:PO a 114=e [(0,1),(1,1)]:=po
@[go_sem] theorem Zkz:YO a 114=l:=po
@[go_sem] theorem Zua:tn a 116=e 2:=po
@[go_sem] theorem Zub:ta a 116=e true:=po
@[go_sem] theorem Zuc:tz a 116=e [c d 0,c d 0]:=po
@[go_sem] theorem ZkA:tf a 116 0=e 0:=po
@[go_sem] theorem ZkB:tf a 116 1=e 1:=po
@[go_sem] theorem ZoG:PO a 116=e [(0,1),(1,1)]:=po
@[go_sem] theorem ZoH:uP a 116=false:=po
@[go_sem] theorem ZgM:flat a 6 116=e [e d,e d]:=po
@[go_sem] theorem ZkC:YO a 116=l:=po
@[go_sem] theorem ZgN:tn a 117=e 1:=po
@[go_sem] theorem ZgO:tb a 117=e 24:=po
@[go_sem] theorem Zud:ta a 117=e false:=po
@[go_sem] theorem ZgP:tz a 117=e [m l 0 0]:=po
@[go_sem] theorem ZkD:YO a 117=l:=po
@[go_sem] theorem SM:Js a 117=e 168:=po
@[go_sem] theorem ZkE:Uf a 117=false:=po
@[go_sem] theorem Zue:tn a 119=e 3:=po
@[go_sem] theorem Zuf:ta a 119=e true:=po
@[go_sem] theorem Zug:tz a 119=e [c d 0,c d 0,m l 0 0]:=po
@[go_sem] theorem ZkF:tf a 119 0=e 0:=po
@[go_sem] theorem ZkG:tf a 119 1=e 2:=po
@[go_sem] theorem ZoI:PO a 119=e [(0,2),(2,1)]:=po
@[go_sem] theorem ZkH:YO a 119=l:=po
@[go_sem] theorem Zuh:tn a 120=e 1:=po
@[go_sem] theorem Zui:ta a 120=e false:=po
@[go_sem] theorem Zuj:tn a 121=e 1:=po
@[go_sem] theorem Zuk:ta a 121=e false:=po
@[go_sem] theorem Zul:tz a 123=e [c d 0,k false,m l 0 0,c d 0,c d 0,c d 0,m l 0 0,c d 0,c d 0,n l,.map l,m l 0 0,c d 0,c d 0,c d 0,c d 0,c d 0,c d 0,c d 0,c d 0,c d 0,c d 0,c d 0,c d 0,c d 0,c d 0,c d 0,c d 0,c d 0,c d 0,c d 0,c d 0,c d 0,c d 0,c d 0,c d 0,c d 0,c d 0,c d 0,c d 0,c d 0,c d 0,c d 0,c d 0,k false,k false,k false,k false,k false,k false,k false,k false,m l 0 0,m l 0 0,m l 0 0,.nilFunc,c d 0]:=po
@[go_sem] theorem ZkI:tf a 123 0=e 0:=po
@[go_sem] theorem ZkJ:tf a 123 1=e 1:=po
@[go_sem] theorem ZkK:tf a 123 2=e 2:=po
@[go_sem] theorem ZkL:tf a 123 3=e 4:=po
@[go_sem] theorem ZkM:tf a 123 4=e 7:=po
@[go_sem] theorem ZkN:tf a 123 5=e 9:=po
@[go_sem] theorem ZkO:tf a 123 6=e 10:=po
@[go_sem] theorem ZkP:tf a 123 7=e 11:=po
@[go_sem] theorem ZkQ:tf a 123 8=e 12:=po
@[go_sem] theorem ZkR:tf a 123 9=e 52:=po
@[go_sem] theorem ZgQ:tf a 123 10=e 53:=po
@[go_sem] theorem ZgR:tf a 123 11=e 54:=po
@[go_sem] theorem ZgS:tf a 123 12=e 55:=po
@[go_sem] theorem ZgT:tf a 123 13=e 56:=po
@[go_sem] theorem ZoJ:PO a 123=e [(0,1),(1,1),(2,2),(4,3),(7,2),(9,1),(10,1),(11,1),(12,40),(52,1),(53,1),(54,1),(55,1),(56,1)]:=po
@[go_sem] theorem ZkS:YO a 123=l:=po
@[go_sem] theorem ZkT:HJ a 127=e o:=po
@[go_sem] theorem Zum:tn a 134=e 1:=po
@[go_sem] theorem Zun:ta a 134=e false:=po
@[go_sem] theorem Zuo:tn a 135=e 5:=po
@[go_sem] theorem Zup:ta a 135=e true:=po
@[go_sem] theorem Zuq:tz a 135=e [n l,n l,n l,n l,n l]:=po
@[go_sem] theorem ZoK:PO a 135=l:=po
@[go_sem] theorem ZkU:YO a 135=e (5,134):=po
@[go_sem] theorem ZkV:Uf a 135=false:=po
@[go_sem] theorem Zur:tz a 139=e [c d 0,c d 0,c d 0,c d 0]:=po
@[go_sem] theorem ZoL:PO a 139=l:=po
@[go_sem] theorem ZkW:YO a 139=e (4,3):=po
@[go_sem] theorem ZoM:Js a 139=l:=po
@[go_sem] theorem ZkX:Uf a 139=false:=po
@[go_sem] theorem ZkY:YO a 146=l:=po
@[go_sem] theorem ZoN:Js a 146=e 151:=po
@[go_sem] theorem Zus:tn a 151=e 2:=po
@[go_sem] theorem Zut:ta a 151=e true:=po
@[go_sem] theorem Zuu:tz a 151=e [n l,c d 0]:=po
@[go_sem] theorem ZkZ:tf a 151 0=e 0:=po
@[go_sem] theorem Zk0:tf a 151 1=e 1:=po
@[go_sem] theorem ZoO:PO a 151=e [(0,1),(1,1)]:=po
@[go_sem] theorem Zk1:YO a 151=l:=po
@[go_sem] theorem Zuv:tn a 152=e 10:=po
@[go_sem] theorem Zuw:ta a 152=e true:=po
@[go_sem] theorem Zk2:YO a 152=e (10,9):=po
@[go_sem] theorem ZoP:Js a 152=l:=po
@[go_sem] theorem Zk3:Uf a 152=false:=po
@[go_sem] theorem Zk4:YO a 157=l:=po
@[go_sem] theorem ZoQ:Js a 157=e 9:=po
@[go_sem] theorem Zux:tz a 161=e [c d 0,c d 0,c d 0,c d 0,c d 0]:=po
@[go_sem] theorem Zk5:tf a 161 0=e 0:=po
@[go_sem] theorem Zk6:tf a 161 1=e 1:=po
@[go_sem] theorem Zk7:tf a 161 2=e 2:=po
@[go_sem] theorem Zk8:tf a 161 3=e 3:=po
@[go_sem] theorem Zk9:tf a 161 4=e 4:=po
@[go_sem] theorem ZoR:PO a 161=e [(0,1),(1,1),(2,1),(3,1),(4,1)]:=po
@[go_sem] theorem Zla:YO a 161=l:=po
@[go_sem] theorem OY:tn a 168=e 8:=po
@[go_sem] theorem fq:tb a 168=e 64:=po
@[go_sem] theorem Zuy:ta a 168=e true:=po
@[go_sem] theorem fu:tz a 168=e [c d 0,c d 0,c d 0,c d 0,c d 0,c d 0,c d 0,c d 0]:=po
@[go_sem] theorem Zlb:tf a 168 0=e 0:=po
@[go_sem] theorem Zlc:tf a 168 1=e 1:=po
@[go_sem] theorem Zld:tf a 168 2=e 3:=po
@[go_sem] theorem ZoS:PO a 168=e [(0,1),(1,2),(3,5)]:=po
@[go_sem] theorem ZoT:uP a 168=false:=po
@[go_sem] theorem ZgU:flat a 6 168=e [e d,e d,e d,e d,e d,e d,e d,e d]:=po
@[go_sem] theorem Zle:YO a 168=l:=po
@[go_sem] theorem pJ:tn a 170=e 14:=po
@[go_sem] theorem Zbc:tb a 170=e 128:=po
@[go_sem] theorem Zuz:ta a 170=e true:=po
@[go_sem] theorem fv:tz a 170=e [c d 0,c d 0,c d 0,c d 0,c d 0,c d 0,c d 0,c d 0,c d 0,c d 0,c d 0,c d 0,c d 0,m l 0 0]:=po
@[go_sem] theorem Zlf:tf a 170 0=e 0:=po
@[go_sem] theorem Zlg:tf a 170 1=e 1:=po
@[go_sem] theorem Zlh:tf a 170 2=e 2:=po
@[go_sem] theorem Zli:tf a 170 3=e 3:=po
@[go_sem] theorem Zlj:tf a 170 4=e 5:=po
@[go_sem] theorem Zlk:tf a 170 5=e 13:=po
@[go_sem] theorem ZoU:PO a 170=e [(0,1),(1,1),(2,1),(3,2),(5,8),(13,1)]:=po
@[go_sem] theorem Zll:YO a 170=l:=po
@[go_sem] theorem ZuA:tn a 191=e 1:=po
@[go_sem] theorem ZuB:ta a 191=e false:=po
@[go_sem] theorem ZuC:tn a 192=e 1:=po
@[go_sem] theorem ZuD:ta a 192=e false:=po
@[go_sem] theorem ZuE:tz a 194=e [c d 0,c d 0,.map l,k false,.map l,.map l]:=po
@[go_sem] theorem Zlm:tf a 194 0=e 0:=po
@[go_sem] theorem Zln:tf a 194 1=e 2:=po
@[go_sem] theorem Zlo:tf a 194 2=e 3:=po
@[go_sem] theorem Zlp:tf a 194 3=e 4:=po
@[go_sem] theorem Zlq:tf a 194 4=e 5:=po
@[go_sem] theorem ZoV:PO a 194=e [(0,2),(2,1),(3,1),(4,1),(5,1)]:=po
@[go_sem] theorem Zlr:YO a 194=l:=po
@[go_sem] theorem ZuF:tn a 205=e 64:=po
@[go_sem] theorem ZuG:ta a 205=e true:=po
@[go_sem] theorem ZuH:tz a 205=e [c j 0,c j 0,c j 0,c j 0,c j 0,c j 0,c j 0,c j 0,c j 0,c j 0,c j 0,c j 0,c j 0,c j 0,c j 0,c j 0,c j 0,c j 0,c j 0,c j 0,c j 0,c j 0,c j 0,c j 0,c j 0,c j 0,c j 0,c j 0,c j 0,c j 0,c j 0,c j 0,c j 0,c j 0,c j 0,c j 0,c j 0,c j 0,c j 0,c j 0,c j 0,c j 0,c j 0,c j 0,c j 0,c j 0,c j 0,c j 0,c j 0,c j 0,c j 0,c j 0,c j 0,c j 0,c j 0,c j 0,c j 0,c j 0,c j 0,c j 0,c j 0,c j 0,c j 0,c j 0]:=po
@[go_sem] theorem Zls:YO a 205=e (64,5):=po
@[go_sem] theorem ZoW:Js a 205=l:=po
@[go_sem] theorem Zlt:Uf a 205=false:=po
@[go_sem] theorem ZuI:tn a 207=e 1:=po
@[go_sem] theorem ZuJ:ta a 207=e false:=po
@[go_sem] theorem Zlu:HJ a 207=e i:=po
@[go_sem] theorem ZuK:tn a 209=e 8:=po
@[go_sem] theorem ZuL:ta a 209=e true:=po
@[go_sem] theorem ZuM:tz a 209=e [c i 0,c i 0,c i 0,c i 0,c i 0,c i 0,c i 0,c i 0]:=po
@[go_sem] theorem ZoX:PO a 209=l:=po
@[go_sem] theorem Zlv:YO a 209=e (8,207):=po
@[go_sem] theorem ZoY:Js a 209=l:=po
@[go_sem] theorem Zlw:Uf a 209=false:=po
@[go_sem] theorem ZuN:tn a 232=e 16:=po
@[go_sem] theorem ZuO:ta a 232=e true:=po
@[go_sem] theorem ZuP:tz a 232=e [c i 0,c i 0,c i 0,c i 0,c i 0,c i 0,c i 0,c i 0,c i 0,c i 0,c i 0,c i 0,c i 0,c i 0,c i 0,c i 0]:=po
@[go_sem] theorem ZoZ:PO a 232=l:=po
@[go_sem] theorem Zlx:YO a 232=e (16,207):=po
@[go_sem] theorem Zo0:Js a 232=l:=po
@[go_sem] theorem ZuQ:tz a 236=e [c i 0,c i 0,c i 0,c i 0,c i 0,c i 0,c i 0,c i 0,c i 0,c i 0,c i 0,c i 0,c i 0,c i 0,c i 0,c i 0,c i 0,c i 0,c i 0,c i 0,c i 0,c i 0,c i 0,c i 0,c i 0,c i 0,c i 0,c i 0,c i 0,c i 0,c i 0,c i 0,c i 0,c i 0,c i 0,c i 0,c i 0,c i 0,c i 0,c i 0,c i 0,c i 0,c i 0,c i 0,c i 0,c i 0,c i 0,c i 0,c i 0,c i 0,c i 0,c i 0,c i 0,c i 0,c i 0,c i 0,c i 0,c i 0,c i 0,c i 0,c i 0,c i 0,c i 0,c i 0]:=po
@[go_sem] theorem Zly:YO a 236=e (64,207):=po
@[go_sem] theorem Zo1:Js a 236=l:=po
@[go_sem] theorem ZuR:tn a 239=e 1:=po
@[go_sem] theorem ZuS:ta a 239=e false:=po
@[go_sem] theorem Zlz:HJ a 239=e o:=po
@[go_sem] theorem ZuT:tn a 255=e 0:=po
@[go_sem] theorem ZuU:tz a 255=e []:=po
@[go_sem] theorem Zo2:PO a 255=e []:=po
@[go_sem] theorem ZlA:YO a 255=l:=po
@[go_sem] theorem ZuV:tz a 274=e [c d 0,c d 0,c d 0]:=po
@[go_sem] theorem Zo3:PO a 274=l:=po
@[go_sem] theorem ZlB:YO a 274=e (3,3):=po
@[go_sem] theorem ZlC:Uf a 274=false:=po
@[go_sem] theorem ZuW:tn a 276=e 5:=po
@[go_sem] theorem ZuX:ta a 276=e true:=po
@[go_sem] theorem ZuY:tz a 276=e [c o 0,c o 0,c o 0,c o 0,c o 0]:=po
@[go_sem] theorem Zo4:PO a 276=l:=po
@[go_sem] theorem ZlD:YO a 276=e (5,239):=po
@[go_sem] theorem Zo5:Js a 276=l:=po
@[go_sem] theorem ZlE:Uf a 276=false:=po
@[go_sem] theorem ZuZ:tz a 278=e [c j 0,c j 0,c j 0,c j 0,c j 0,c j 0,c j 0,c j 0,c j 0,c j 0,c j 0,c j 0,c j 0,c j 0,c j 0,c j 0,c j 0]:=po
@[go_sem] theorem ZlF:YO a 278=e (17,5):=po
@[go_sem] theorem Zo6:Js a 278=l:=po
@[go_sem] theorem ZlG:Uf a 278=false:=po
@[go_sem] theorem ZlH:YO a 298=l:=po
@[go_sem] theorem ZcD:Js a 298=e 117:=po
@[go_sem] theorem ZlI:YO a 311=l:=po
@[go_sem] theorem Zo7:Js a 311=e 3:=po
@[go_sem] theorem go8:goes a 8=true:=po
@[go_sem] theorem go9:goes a 9=true:=po
@[go_sem] theorem Zz3:goes a 11=true:=po
@[go_sem] theorem Zz4:goes a 13=true:=po
@[go_sem] theorem Zz5:goes a 14=true:=po
@[go_sem] theorem Zz6:goes a 17=true:=po
@[go_sem] theorem Zz7:goes a 18=true:=po
@[go_sem] theorem Zz8:goes a 19=true:=po
@[go_sem] theorem Zz9:goes a 20=true:=po
@[go_sem] theorem ZAa:goes a 22=true:=po
@[go_sem] theorem ZAb:goes a 23=true:=po
@[go_sem] theorem ZAc:goes a 24=true:=po
@[go_sem] theorem ZAd:goes a 25=true:=po
@[go_sem] theorem ZAe:goes a 26=true:=po
@[go_sem] theorem ZAf:goes a 27=true:=po
@[go_sem] theorem ZAg:goes a 28=true:=po
@[go_sem] theorem ZAh:goes a 29=true:=po
@[go_sem] theorem ZAi:goes a 31=true:=po
@[go_sem] theorem ZAj:goes a 32=true:=po
@[go_sem] theorem ZAk:goes a 33=true:=po
@[go_sem] theorem ZAl:goes a 34=true:=po
@[go_sem] theorem ZAm:goes a 35=true:=po
@[go_sem] theorem ZAn:goes a 36=true:=po
@[go_sem] theorem ZAo:goes a 37=true:=po
@[go_sem] theorem ZAp:goes a 38=true:=po
@[go_sem] theorem ZAq:goes a 39=true:=po
@[go_sem] theorem ZAr:goes a 40=true:=po
@[go_sem] theorem ZAs:goes a 41=true:=po
@[go_sem] theorem ZAt:goes a 42=true:=po
@[go_sem] theorem ZAu:goes a 43=true:=po
@[go_sem] theorem ZAv:goes a 44=true:=po
@[go_sem] theorem ZAw:goes a 45=true:=po
@[go_sem] theorem ZAx:goes a 46=true:=po
@[go_sem] theorem ZAy:goes a 47=true:=po
@[go_sem] theorem ZAz:goes a 48=true:=po
@[go_sem] theorem ZAA:goes a 49=true:=po
@[go_sem] theorem ZAB:goes a 50=true:=po
@[go_sem] theorem ZAC:goes a 51=true:=po
@[go_sem] theorem ZAD:goes a 52=true:=po
@[go_sem] theorem ZAE:goes a 53=true:=po
@[go_sem] theorem ZAF:goes a 54=true:=po
@[go_sem] theorem ZAG:goes a 55=true:=po
@[go_sem] theorem ZAH:goes a 56=true:=po
@[go_sem] theorem ZAI:goes a 57=true:=po
@[go_sem] theorem ZAJ:goes a 58=true:=po
@[go_sem] theorem ZAK:goes a 59=true:=po
@[go_sem] theorem ZAL:goes a 61=true:=po
@[go_sem] theorem ZAM:goes a 62=true:=po
@[go_sem] theorem ZAN:goes a 63=true:=po
@[go_sem] theorem ZAO:goes a 64=true:=po
@[go_sem] theorem ZAP:goes a 65=true:=po
@[go_sem] theorem ZAQ:goes a 66=true:=po
@[go_sem] theorem ZAR:goes a 67=true:=po
@[go_sem] theorem ZAS:goes a 68=true:=po
@[go_sem] theorem ZAT:goes a 69=true:=po
@[go_sem] theorem ZAU:goes a 70=true:=po
@[go_sem] theorem ZAV:goes a 71=true:=po
@[go_sem] theorem ZAW:goes a 72=true:=po
@[go_sem] theorem ZAX:goes a 73=true:=po
@[go_sem] theorem ZAY:goes a 74=true:=po
@[go_sem] theorem ZAZ:goes a 75=true:=po
@[go_sem] theorem ZA0:goes a 76=true:=po
@[go_sem] theorem ZA1:goes a 77=true:=po
@[go_sem] theorem ZA2:goes a 78=true:=po
@[go_sem] theorem ZA3:goes a 79=true:=po
@[go_sem] theorem ZA4:goes a 80=true:=po
@[go_sem] theorem ZA5:goes a 81=true:=po
@[go_sem] theorem ZA6:goes a 82=true:=po
@[go_sem] theorem ZA7:goes a 83=true:=po
@[go_sem] theorem ZA8:goes a 84=true:=po
@[go_sem] theorem ZA9:goes a 92=true:=po
@[go_sem] theorem ZBa:goes a 93=true:=po
@[go_sem] theorem ZBb:goes a 94=true:=po
@[go_sem] theorem ZBc:goes a 95=true:=po
@[go_sem] theorem ZBd:goes a 96=true:=po
@[go_sem] theorem ZBe:goes a 97=true:=po
@[go_sem] theorem ZBf:goes a 98=true:=po
@[go_sem] theorem ZBg:goes a 99=true:=po
@[go_sem] theorem Zu0:goes a 100=true:=po
@[go_sem] theorem Zu1:goes a 101=true:=po
@[go_sem] theorem Zu2:goes a 102=true:=po
@[go_sem] theorem Zu3:goes a 103=true:=po
@[go_sem] theorem Zu4:goes a 104=true:=po
@[go_sem] theorem Zu5:goes a 105=true:=po
@[go_sem] theorem Zu6:goes a 106=true:=po
@[go_sem] theorem Zu7:goes a 107=true:=po
@[go_sem] theorem Zu8:goes a 108=true:=po
@[go_sem] theorem Zu9:goes a 109=true:=po
@[go_sem] theorem Zva:goes a 110=true:=po
@[go_sem] theorem Zvb:goes a 122=true:=po
@[go_sem] theorem Zvc:goes a 123=true:=po
@[go_sem] theorem Zvd:goes a 124=true:=po
@[go_sem] theorem Zve:goes a 125=true:=po
@[go_sem] theorem Zvf:goes a 126=true:=po
@[go_sem] theorem Zvg:goes a 127=true:=po
@[go_sem] theorem Zvh:goes a 128=true:=po
@[go_sem] theorem Zvi:goes a 129=true:=po
@[go_sem] theorem Zvj:goes a 130=true:=po
@[go_sem] theorem Zvk:goes a 131=true:=po
@[go_sem] theorem Zvl:goes a 132=true:=po
@[go_sem] theorem Zvm:goes a 133=true:=po
@[go_sem] theorem Zvn:goes a 134=true:=po
@[go_sem] theorem Zvo:goes a 135=true:=po
@[go_sem] theorem Zvp:goes a 136=true:=po
@[go_sem] theorem Zvq:goes a 137=true:=po
@[go_sem] theorem Zvr:goes a 138=true:=po
@[go_sem] theorem Zvs:goes a 139=true:=po
@[go_sem] theorem Zvt:goes a 140=true:=po
@[go_sem] theorem Zvu:goes a 153=true:=po
@[go_sem] theorem Zvv:goes a 155=true:=po
@[go_sem] theorem Zvw:goes a 156=true:=po
@[go_sem] theorem Zvx:goes a 158=true:=po
@[go_sem] theorem Zvy:goes a 159=true:=po
@[go_sem] theorem Zvz:goes a 162=true:=po
@[go_sem] theorem ZvA:goes a 163=true:=po
@[go_sem] theorem ZvB:goes a 164=true:=po
@[go_sem] theorem ZvC:goes a 165=true:=po
@[go_sem] theorem ZvD:goes a 166=true:=po
@[go_sem] theorem ZvE:goes a 167=true:=po
@[go_sem] theorem ZvF:goes a 168=true:=po
@[go_sem] theorem ZvG:goes a 169=true:=po
@[go_sem] theorem ZvH:goes a 170=true:=po
@[go_sem] theorem ZvI:goes a 171=true:=po
@[go_sem] theorem ZvJ:goes a 172=true:=po
@[go_sem] theorem ZvK:goes a 173=true:=po
@[go_sem] theorem ZvL:goes a 174=true:=po
@[go_sem] theorem ZvM:goes a 175=true:=po
@[go_sem] theorem ZvN:goes a 176=true:=po
@[go_sem] theorem ZvO:goes a 188=true:=po
@[go_sem] theorem ZvP:goes a 189=true:=po
@[go_sem] theorem ZvQ:goes a 191=true:=po
@[go_sem] theorem ZvR:goes a 192=true:=po
@[go_sem] theorem ZvS:goes a 193=true:=po
@[go_sem] theorem ZvT:goes a 194=true:=po
@[go_sem] theorem ZvU:goes a 195=true:=po
@[go_sem] theorem ZvV:goes a 196=true:=po
@[go_sem] theorem ZvW:goes a 197=true:=po
@[go_sem] theorem ZvX:goes a 200=true:=po
def GU:List Nat:=[104,97,114,110,101,115,115,32,98,102,53,99,57,53,53,52,99,101,53,99,99,57,56,97,99,55,101,51,99,51,55,56,102,49,57,49,97,57,53,55,57,53,52,97,99,101,48,52,55,51,49,54,54,56,99,51,97,51,98,53,102,51,99,51,52,99,55,100,99,100,56,51,32,99,117,116,32,97,116,32,99,111,110,99,108,97,118,101,47,99,111,110,99,108,97,118,101,116,111,112,46,84,111,112,83,101,116,116,108,101,100,32,99,111,110,99,108,97,118,101,47,99,111,110,99,108,97,118,101,116,111,112,46,84,111,112,83,101,114,118,101,100,32,99,111,110,99,108,97,118,101,47,99,111,110,99,108,97,118,101,116,111,112,46,84,111,112,67,114,97,115,104,32,99,111,110,99,108,97,118,101,47,99,111,110,99,108,97,118,101,116,111,112,46,84,111,112,84,111,108,100,32,99,111,110,99,108,97,118,101,47,99,111,110,99,108,97,118,101,116,111,112,46,84,111,112,83,99,114,105,112,116,115]
theorem aW:∃rest,Go.behindMainWord (Go.wordsSigns Tryz.prog.initOrder.toList) = "cut".toList :: rest:=
 iW (L:=GU.map Char.ofNat) po po
theorem ZgV:Tryz.prog.make=e .cut:=aW.elim fun _ h=>oR h
theorem ZcE:Tryz.prog.liftsFinal=false:=aW.elim fun _ h=>iS h
theorem ZcF:Tryz.prog.mayEnter=true:=aW.elim fun _ h=>iU h po po po
theorem pK:Go.ownKnob Tryz.prog.godebug=l:=po
theorem pL:Go.laidOutB a=true:=po
theorem mixed:Tryz.prog.follows .mixedOrders=true:=po
end Go.Proofs.YtdpjmhgbmhjniaaGreatDoor

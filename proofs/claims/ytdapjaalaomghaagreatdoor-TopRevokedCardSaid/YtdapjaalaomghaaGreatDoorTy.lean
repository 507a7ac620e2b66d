/- Part Ty. -/
import Derived.Test.YtdapjaalaomghaaGreatDoorRows
import Derived.Test.YtdapjaalaomghaaGreatDoorV9
import Derived.Test.YtdapjaalaomghaaGreatDoorW3
import Derived.KernelRfl
open Go.Value renaming int→a,bool→k,slice→m,pointer→n
open Go.IntKind renaming i64→d,u32→i,u8→j,u64→o
open Go.Proofs.Tryz renaming prog→c
open Option renaming some→e,none→l
namespace Go.Proofs.YtdapjaalaomghaaGreatDoor
open Go.V
set_option maxRecDepth 100000
@[go_sem] theorem tn1:tn c 1=e 1:=uj
@[go_sem] theorem tb1:tb c 1=e 8:=uj
@[go_sem] theorem ta1:ta c 1=e false:=uj
@[go_sem] theorem tz1:tz c 1=e [.nilFunc]:=uj
@[go_sem] theorem io:tb c 2=e 8:=uj
@[go_sem] theorem tn3:tn c 3=e 1:=uj
@[go_sem] theorem tb3:tb c 3=e 8:=uj
@[go_sem] theorem ta3:ta c 3=e false:=uj
@[go_sem] theorem tz3:tz c 3=e [a d 0]:=uj
@[go_sem] theorem Zxj:Ex c 3=e d:=uj
@[go_sem] theorem tn4:tn c 4=e 1:=uj
@[go_sem] theorem tb4:tb c 4=e 1:=uj
@[go_sem] theorem ta4:ta c 4=e false:=uj
@[go_sem] theorem Tv:tn c 5=e 1:=uj
@[go_sem] theorem Sh:tb c 5=e 1:=uj
@[go_sem] theorem ta5:ta c 5=e false:=uj
@[go_sem] theorem Si:tz c 5=e [a j 0]:=uj
@[go_sem] theorem Zxk:Ex c 5=e j:=uj
@[go_sem] theorem ZCj:tn c 23=e 5:=uj
@[go_sem] theorem ZCk:ta c 23=e true:=uj
@[go_sem] theorem Zre:tf c 23 0=e 0:=uj
@[go_sem] theorem Zrf:tf c 23 1=e 1:=uj
@[go_sem] theorem Zrg:tf c 23 2=e 2:=uj
@[go_sem] theorem Zrh:tf c 23 3=e 3:=uj
@[go_sem] theorem Zri:tf c 23 4=e 4:=uj
@[go_sem] theorem Zgy:tn c 24=e 5:=uj
@[go_sem] theorem ZkO:tb c 24=e 40:=uj
@[go_sem] theorem ZCl:ta c 24=e true:=uj
@[go_sem] theorem xm:tz c 24=e [a d 0,a d 0,a d 0,a d 0,a d 0]:=uj
@[go_sem] theorem Zrj:tf c 24 0=e 0:=uj
@[go_sem] theorem Zrk:tf c 24 1=e 1:=uj
@[go_sem] theorem Zrl:tf c 24 2=e 2:=uj
@[go_sem] theorem Zrm:tf c 24 3=e 3:=uj
@[go_sem] theorem Zrn:tf c 24 4=e 4:=uj
@[go_sem] theorem Zxl:Ny c 24=e [(0,1),(1,1),(2,1),(3,1),(4,1)]:=uj
@[go_sem] theorem Zxm:teg c 24=false:=uj
@[go_sem] theorem Zoa:flat c 6 24=e [e d,e d,e d,e d,e d]:=uj
@[go_sem] theorem Zro:Xn c 24=l:=uj
@[go_sem] theorem ZCm:tn c 26=e 1:=uj
@[go_sem] theorem ZCn:ta c 26=e false:=uj
@[go_sem] theorem Zrp:Xn c 26=l:=uj
@[go_sem] theorem Xd:QP c 26=e 5:=uj
@[go_sem] theorem Zrq:Vf c 26=false:=uj
@[go_sem] theorem ZCo:tn c 27=e 1:=uj
@[go_sem] theorem ZCp:ta c 27=e false:=uj
@[go_sem] theorem ZCq:tn c 31=e 3:=uj
@[go_sem] theorem ZCr:ta c 31=e true:=uj
@[go_sem] theorem ZCs:tz c 31=e [a d 0,a d 0,a d 0]:=uj
@[go_sem] theorem Zrr:tf c 31 0=e 0:=uj
@[go_sem] theorem Zrs:tf c 31 1=e 1:=uj
@[go_sem] theorem Zrt:tf c 31 2=e 2:=uj
@[go_sem] theorem Zxn:Ny c 31=e [(0,1),(1,1),(2,1)]:=uj
@[go_sem] theorem Zru:Xn c 31=l:=uj
@[go_sem] theorem Zrv:Xn c 33=l:=uj
@[go_sem] theorem Ze7:QP c 33=e 36:=uj
@[go_sem] theorem ZkP:tn c 36=e 5:=uj
@[go_sem] theorem ZkQ:tb c 36=e 56:=uj
@[go_sem] theorem ZCt:ta c 36=e true:=uj
@[go_sem] theorem ZkR:tz c 36=e [a d 0,a d 0,a d 0,a d 0,m l 0 0]:=uj
@[go_sem] theorem Zrw:tf c 36 0=e 0:=uj
@[go_sem] theorem Zrx:tf c 36 1=e 1:=uj
@[go_sem] theorem Zry:tf c 36 2=e 2:=uj
@[go_sem] theorem Zrz:tf c 36 3=e 3:=uj
@[go_sem] theorem ZrA:tf c 36 4=e 4:=uj
@[go_sem] theorem Zxo:Ny c 36=e [(0,1),(1,1),(2,1),(3,1),(4,1)]:=uj
@[go_sem] theorem ZrB:Xn c 36=l:=uj
@[go_sem] theorem ZrC:Xn c 37=e (5,4):=uj
@[go_sem] theorem Zxp:QP c 37=l:=uj
@[go_sem] theorem ZCu:tn c 38=e 1:=uj
@[go_sem] theorem ZCv:ta c 38=e false:=uj
@[go_sem] theorem ZrD:Xn c 38=l:=uj
@[go_sem] theorem ZkS:QP c 38=e 55:=uj
@[go_sem] theorem ZrE:Xn c 39=e (5,3):=uj
@[go_sem] theorem Zxq:QP c 39=l:=uj
@[go_sem] theorem ZCw:tn c 40=e 1:=uj
@[go_sem] theorem ZCx:ta c 40=e false:=uj
@[go_sem] theorem ZrF:Xn c 40=l:=uj
@[go_sem] theorem ZkT:QP c 40=e 58:=uj
@[go_sem] theorem ZCy:tn c 42=e 13:=uj
@[go_sem] theorem ZCz:ta c 42=e true:=uj
@[go_sem] theorem ZCA:tz c 42=e [a d 0,k false,k false,k false,k false,k false,m l 0 0,a d 0,a d 0,a d 0,a d 0,a d 0,m l 0 0]:=uj
@[go_sem] theorem ZrG:tf c 42 0=e 0:=uj
@[go_sem] theorem ZrH:tf c 42 1=e 1:=uj
@[go_sem] theorem ZrI:tf c 42 2=e 6:=uj
@[go_sem] theorem ZrJ:tf c 42 3=e 7:=uj
@[go_sem] theorem ZrK:tf c 42 4=e 12:=uj
@[go_sem] theorem Zxr:Ny c 42=e [(0,1),(1,5),(6,1),(7,5),(12,1)]:=uj
@[go_sem] theorem ZrL:Xn c 42=l:=uj
@[go_sem] theorem ZkU:QP c 45=e 75:=uj
@[go_sem] theorem ZCB:tn c 46=e 8:=uj
@[go_sem] theorem ZCC:ta c 46=e true:=uj
@[go_sem] theorem ZrM:Xn c 46=e (8,3):=uj
@[go_sem] theorem Zxs:QP c 46=l:=uj
@[go_sem] theorem ZrN:Vf c 46=false:=uj
@[go_sem] theorem ZCD:tn c 48=e 2:=uj
@[go_sem] theorem ZCE:ta c 48=e true:=uj
@[go_sem] theorem ZCF:tz c 48=e [a d 0,a d 0]:=uj
@[go_sem] theorem ZrO:tf c 48 0=e 0:=uj
@[go_sem] theorem ZrP:tf c 48 1=e 1:=uj
@[go_sem] theorem Zxt:Ny c 48=e [(0,1),(1,1)]:=uj
@[go_sem] theorem Zxu:teg c 48=false:=uj
@[go_sem] theorem Zob:flat c 6 48=e [e d,e d]:=uj
@[go_sem] theorem ZrQ:Xn c 48=l:=uj
@[go_sem] theorem ZrR:Xn c 49=e (8,48):=uj
@[go_sem] theorem Zxv:QP c 49=l:=uj
@[go_sem] theorem ZCG:tn c 50=e 8:=uj
@[go_sem] theorem ZCH:ta c 50=e true:=uj
@[go_sem] theorem ZCI:tz c 50=e [k false,k false,k false,k false,k false,k false,k false,k false]:=uj
@[go_sem] theorem Zxw:Ny c 50=l:=uj
@[go_sem] theorem ZrS:Xn c 50=e (8,4):=uj
@[go_sem] theorem Zxx:QP c 50=l:=uj
@[go_sem] theorem ZrT:Vf c 50=false:=uj
@[go_sem] theorem ZCJ:tn c 52=e 40:=uj
@[go_sem] theorem ZCK:ta c 52=e true:=uj
@[go_sem] theorem ZCL:tz c 52=e [a d 0,a d 0,a d 0,a d 0,a d 0,a d 0,a d 0,a d 0,a d 0,a d 0,a d 0,a d 0,a d 0,a d 0,a d 0,a d 0,a d 0,a d 0,a d 0,a d 0,a d 0,a d 0,a d 0,a d 0,a d 0,a d 0,a d 0,a d 0,a d 0,a d 0,a d 0,a d 0,k false,k false,k false,k false,k false,k false,k false,k false]:=uj
@[go_sem] theorem ZrU:tf c 52 0=e 0:=uj
@[go_sem] theorem ZrV:tf c 52 1=e 8:=uj
@[go_sem] theorem ZrW:tf c 52 2=e 16:=uj
@[go_sem] theorem ZrX:tf c 52 3=e 32:=uj
@[go_sem] theorem Zxy:Ny c 52=e [(0,8),(8,8),(16,16),(32,8)]:=uj
@[go_sem] theorem ZrY:Xn c 52=l:=uj
@[go_sem] theorem ZrZ:tn c 55=e 1:=uj
@[go_sem] theorem Zr0:tb c 55=e 24:=uj
@[go_sem] theorem ZCM:ta c 55=e false:=uj
@[go_sem] theorem Zr1:tz c 55=e [m l 0 0]:=uj
@[go_sem] theorem Zr2:Xn c 55=l:=uj
@[go_sem] theorem aB:QP c 55=e 24:=uj
@[go_sem] theorem Zr3:Vf c 55=false:=uj
@[go_sem] theorem Zr4:tn c 58=e 5:=uj
@[go_sem] theorem Zr5:tb c 58=e 40:=uj
@[go_sem] theorem Zr6:tz c 58=e [a d 0,a d 0,a d 0,a d 0,a d 0]:=uj
@[go_sem] theorem Zr7:tf c 58 3=e 3:=uj
@[go_sem] theorem Zxz:Ny c 58=e [(0,1),(1,1),(2,1),(3,2)]:=uj
@[go_sem] theorem Zr8:Xn c 58=l:=uj
@[go_sem] theorem ZCN:tn c 65=e 11:=uj
@[go_sem] theorem ZCO:ta c 65=e true:=uj
@[go_sem] theorem ZCP:tz c 65=e [m l 0 0,a d 0,a d 0,k false,k false,k false,k false,k false,k false,k false,k false]:=uj
@[go_sem] theorem Zr9:tf c 65 0=e 0:=uj
@[go_sem] theorem Zsa:tf c 65 1=e 1:=uj
@[go_sem] theorem Zsb:tf c 65 2=e 2:=uj
@[go_sem] theorem Zsc:tf c 65 3=e 3:=uj
@[go_sem] theorem ZxA:Ny c 65=e [(0,1),(1,1),(2,1),(3,8)]:=uj
@[go_sem] theorem Zsd:Xn c 65=l:=uj
@[go_sem] theorem Zse:tn c 75=e 8:=uj
@[go_sem] theorem Zsf:tb c 75=e 80:=uj
@[go_sem] theorem Zsg:tz c 75=e [a d 0,a d 0,a d 0,a d 0,a d 0,a d 0,a d 0,m l 0 0]:=uj
@[go_sem] theorem ZxB:Ny c 75=e [(0,5),(5,2),(7,1)]:=uj
@[go_sem] theorem Zsh:Xn c 75=l:=uj
@[go_sem] theorem ZCQ:tn c 81=e 1:=uj
@[go_sem] theorem ZCR:ta c 81=e false:=uj
@[go_sem] theorem ZCS:tn c 82=e 5:=uj
@[go_sem] theorem ZCT:ta c 82=e true:=uj
@[go_sem] theorem ZCU:tz c 82=e [n l,n l,n l,n l,n l]:=uj
@[go_sem] theorem ZxC:Ny c 82=l:=uj
@[go_sem] theorem Zsi:Xn c 82=e (5,81):=uj
@[go_sem] theorem Zsj:Vf c 82=false:=uj
@[go_sem] theorem ZCV:tn c 90=e 1:=uj
@[go_sem] theorem ZCW:ta c 90=e false:=uj
@[go_sem] theorem ZCX:tn c 93=e 1:=uj
@[go_sem] theorem ZCY:ta c 93=e false:=uj
@[go_sem] theorem Zsk:Xn c 93=l:=uj
@[go_sem] theorem ZkV:QP c 93=e 97:=uj
@[go_sem] theorem ZCZ:tn c 94=e 1:=uj
@[go_sem] theorem ZC0:ta c 94=e false:=uj
@[go_sem] theorem Zsl:Xn c 94=l:=uj
@[go_sem] theorem lT:QP c 94=e 134:=uj
@[go_sem] theorem Zsm:Vf c 94=false:=uj
@[go_sem] theorem ZC1:tz c 96=e [m l 0 0,m l 0 0,a d 0,k false,k false,k false,k false,k false,m l 0 0,a d 0,a d 0,a d 0,a d 0,a d 0,m l 0 0]:=uj
@[go_sem] theorem Zsn:tf c 96 0=e 0:=uj
@[go_sem] theorem Zso:tf c 96 1=e 1:=uj
@[go_sem] theorem Zsp:tf c 96 2=e 2:=uj
@[go_sem] theorem ZxD:Ny c 96=e [(0,1),(1,1),(2,13)]:=uj
@[go_sem] theorem Zsq:Xn c 96=l:=uj
@[go_sem] theorem Zsr:tn c 97=e 1:=uj
@[go_sem] theorem Zss:tb c 97=e 8:=uj
@[go_sem] theorem ZC2:ta c 97=e false:=uj
@[go_sem] theorem Zst:tz c 97=e [n l]:=uj
@[go_sem] theorem ZC3:tn c 99=e 2:=uj
@[go_sem] theorem ZC4:ta c 99=e true:=uj
@[go_sem] theorem ZC5:tz c 99=e [m l 0 0,a d 0]:=uj
@[go_sem] theorem Zsu:tf c 99 0=e 0:=uj
@[go_sem] theorem Zsv:tf c 99 1=e 1:=uj
@[go_sem] theorem ZxE:Ny c 99=e [(0,1),(1,1)]:=uj
@[go_sem] theorem Zsw:Xn c 99=l:=uj
@[go_sem] theorem ZxF:tn c 101=e 2:=uj
@[go_sem] theorem ZxG:ta c 101=e true:=uj
@[go_sem] theorem ZxH:tz c 101=e [a d 0,a d 0]:=uj
@[go_sem] theorem Zoc:tf c 101 0=e 0:=uj
@[go_sem] theorem Zod:tf c 101 1=e 1:=uj
@[go_sem] theorem Zsx:Ny c 101=e [(0,1),(1,1)]:=uj
@[go_sem] theorem Zsy:teg c 101=false:=uj
@[go_sem] theorem ZkW:flat c 6 101=e [e d,e d]:=uj
@[go_sem] theorem Zoe:Xn c 101=l:=uj
@[go_sem] theorem ZkX:tn c 102=e 1:=uj
@[go_sem] theorem ZkY:tb c 102=e 24:=uj
@[go_sem] theorem ZxI:ta c 102=e false:=uj
@[go_sem] theorem ZkZ:tz c 102=e [m l 0 0]:=uj
@[go_sem] theorem Zof:Xn c 102=l:=uj
@[go_sem] theorem Oi:QP c 102=e 132:=uj
@[go_sem] theorem Zog:Vf c 102=false:=uj
@[go_sem] theorem ZxJ:tn c 104=e 3:=uj
@[go_sem] theorem ZxK:ta c 104=e true:=uj
@[go_sem] theorem ZxL:tz c 104=e [a d 0,a d 0,m l 0 0]:=uj
@[go_sem] theorem Zoh:tf c 104 0=e 0:=uj
@[go_sem] theorem Zoi:tf c 104 1=e 2:=uj
@[go_sem] theorem Zsz:Ny c 104=e [(0,2),(2,1)]:=uj
@[go_sem] theorem Zoj:Xn c 104=l:=uj
@[go_sem] theorem ZxM:tn c 105=e 1:=uj
@[go_sem] theorem ZxN:ta c 105=e false:=uj
@[go_sem] theorem ZxO:tn c 106=e 1:=uj
@[go_sem] theorem ZxP:ta c 106=e false:=uj
@[go_sem] theorem ZxQ:tz c 108=e [a d 0,k false,m l 0 0,a d 0,a d 0,a d 0,m l 0 0,a d 0,a d 0,n l,.map l,m l 0 0,a d 0,a d 0,a d 0,a d 0,a d 0,a d 0,a d 0,a d 0,a d 0,a d 0,a d 0,a d 0,a d 0,a d 0,a d 0,a d 0,a d 0,a d 0,a d 0,a d 0,a d 0,a d 0,a d 0,a d 0,a d 0,a d 0,a d 0,a d 0,a d 0,a d 0,a d 0,a d 0,k false,k false,k false,k false,k false,k false,k false,k false,m l 0 0,m l 0 0,m l 0 0,.nilFunc,a d 0]:=uj
@[go_sem] theorem Zok:tf c 108 0=e 0:=uj
@[go_sem] theorem Zol:tf c 108 1=e 1:=uj
@[go_sem] theorem Zom:tf c 108 2=e 2:=uj
@[go_sem] theorem Zon:tf c 108 3=e 4:=uj
@[go_sem] theorem Zoo:tf c 108 4=e 7:=uj
@[go_sem] theorem Zop:tf c 108 5=e 9:=uj
@[go_sem] theorem Zoq:tf c 108 6=e 10:=uj
@[go_sem] theorem Zor:tf c 108 7=e 11:=uj
@[go_sem] theorem Zos:tf c 108 8=e 12:=uj
@[go_sem] theorem Zot:tf c 108 9=e 52:=uj
@[go_sem] theorem Zk0:tf c 108 10=e 53:=uj
@[go_sem] theorem Zk1:tf c 108 11=e 54:=uj
@[go_sem] theorem Zk2:tf c 108 12=e 55:=uj
@[go_sem] theorem Zk3:tf c 108 13=e 56:=uj
@[go_sem] theorem ZsA:Ny c 108=e [(0,1),(1,1),(2,2),(4,3),(7,2),(9,1),(10,1),(11,1),(12,40),(52,1),(53,1),(54,1),(55,1),(56,1)]:=uj
@[go_sem] theorem Zou:Xn c 108=l:=uj
@[go_sem] theorem ZxR:tz c 113=e [a d 0,a d 0]:=uj
@[go_sem] theorem ZsB:Ny c 113=l:=uj
@[go_sem] theorem Zov:Xn c 113=e (2,3):=uj
@[go_sem] theorem Zow:Vf c 113=false:=uj
@[go_sem] theorem Zox:Ex c 114=e o:=uj
@[go_sem] theorem Zoy:Xn c 121=l:=uj
@[go_sem] theorem ZsC:QP c 121=e 126:=uj
@[go_sem] theorem ZxS:tn c 126=e 2:=uj
@[go_sem] theorem ZxT:ta c 126=e true:=uj
@[go_sem] theorem ZxU:tz c 126=e [n l,a d 0]:=uj
@[go_sem] theorem Zoz:tf c 126 0=e 0:=uj
@[go_sem] theorem ZoA:tf c 126 1=e 1:=uj
@[go_sem] theorem ZsD:Ny c 126=e [(0,1),(1,1)]:=uj
@[go_sem] theorem ZoB:Xn c 126=l:=uj
@[go_sem] theorem Lh:tn c 132=e 8:=uj
@[go_sem] theorem lU:tb c 132=e 64:=uj
@[go_sem] theorem ZxV:ta c 132=e true:=uj
@[go_sem] theorem lV:tz c 132=e [a d 0,a d 0,a d 0,a d 0,a d 0,a d 0,a d 0,a d 0]:=uj
@[go_sem] theorem ZoC:tf c 132 0=e 0:=uj
@[go_sem] theorem ZoD:tf c 132 1=e 1:=uj
@[go_sem] theorem ZoE:tf c 132 2=e 3:=uj
@[go_sem] theorem ZsE:Ny c 132=e [(0,1),(1,2),(3,5)]:=uj
@[go_sem] theorem ZsF:teg c 132=false:=uj
@[go_sem] theorem Zk4:flat c 6 132=e [e d,e d,e d,e d,e d,e d,e d,e d]:=uj
@[go_sem] theorem ZoF:Xn c 132=l:=uj
@[go_sem] theorem xo:tn c 134=e 14:=uj
@[go_sem] theorem Ze8:tb c 134=e 128:=uj
@[go_sem] theorem ZxW:ta c 134=e true:=uj
@[go_sem] theorem lW:tz c 134=e [a d 0,a d 0,a d 0,a d 0,a d 0,a d 0,a d 0,a d 0,a d 0,a d 0,a d 0,a d 0,a d 0,m l 0 0]:=uj
@[go_sem] theorem ZoG:tf c 134 0=e 0:=uj
@[go_sem] theorem ZoH:tf c 134 1=e 1:=uj
@[go_sem] theorem ZoI:tf c 134 2=e 2:=uj
@[go_sem] theorem ZoJ:tf c 134 3=e 3:=uj
@[go_sem] theorem ZoK:tf c 134 4=e 5:=uj
@[go_sem] theorem ZoL:tf c 134 5=e 13:=uj
@[go_sem] theorem ZsG:Ny c 134=e [(0,1),(1,1),(2,1),(3,2),(5,8),(13,1)]:=uj
@[go_sem] theorem ZoM:Xn c 134=l:=uj
@[go_sem] theorem ZxX:tn c 143=e 64:=uj
@[go_sem] theorem ZxY:ta c 143=e true:=uj
@[go_sem] theorem ZxZ:tz c 143=e [a j 0,a j 0,a j 0,a j 0,a j 0,a j 0,a j 0,a j 0,a j 0,a j 0,a j 0,a j 0,a j 0,a j 0,a j 0,a j 0,a j 0,a j 0,a j 0,a j 0,a j 0,a j 0,a j 0,a j 0,a j 0,a j 0,a j 0,a j 0,a j 0,a j 0,a j 0,a j 0,a j 0,a j 0,a j 0,a j 0,a j 0,a j 0,a j 0,a j 0,a j 0,a j 0,a j 0,a j 0,a j 0,a j 0,a j 0,a j 0,a j 0,a j 0,a j 0,a j 0,a j 0,a j 0,a j 0,a j 0,a j 0,a j 0,a j 0,a j 0,a j 0,a j 0,a j 0,a j 0]:=uj
@[go_sem] theorem ZoN:Xn c 143=e (64,5):=uj
@[go_sem] theorem ZsH:QP c 143=l:=uj
@[go_sem] theorem ZoO:Vf c 143=false:=uj
@[go_sem] theorem Zx0:tn c 145=e 1:=uj
@[go_sem] theorem Zx1:ta c 145=e false:=uj
@[go_sem] theorem ZoP:Ex c 145=e i:=uj
@[go_sem] theorem Zx2:tn c 152=e 1:=uj
@[go_sem] theorem Zx3:ta c 152=e false:=uj
@[go_sem] theorem Zx4:tn c 153=e 1:=uj
@[go_sem] theorem Zx5:ta c 153=e false:=uj
@[go_sem] theorem Zx6:tz c 155=e [a d 0,a d 0,.map l,k false,.map l,.map l]:=uj
@[go_sem] theorem ZoQ:tf c 155 0=e 0:=uj
@[go_sem] theorem ZoR:tf c 155 1=e 2:=uj
@[go_sem] theorem ZoS:tf c 155 2=e 3:=uj
@[go_sem] theorem ZoT:tf c 155 3=e 4:=uj
@[go_sem] theorem ZoU:tf c 155 4=e 5:=uj
@[go_sem] theorem ZsI:Ny c 155=e [(0,2),(2,1),(3,1),(4,1),(5,1)]:=uj
@[go_sem] theorem ZoV:Xn c 155=l:=uj
@[go_sem] theorem Zx7:tn c 164=e 8:=uj
@[go_sem] theorem Zx8:ta c 164=e true:=uj
@[go_sem] theorem Zx9:tz c 164=e [a i 0,a i 0,a i 0,a i 0,a i 0,a i 0,a i 0,a i 0]:=uj
@[go_sem] theorem ZsJ:Ny c 164=l:=uj
@[go_sem] theorem ZoW:Xn c 164=e (8,145):=uj
@[go_sem] theorem ZsK:QP c 164=l:=uj
@[go_sem] theorem ZoX:Vf c 164=false:=uj
@[go_sem] theorem Zya:tn c 167=e 16:=uj
@[go_sem] theorem Zyb:ta c 167=e true:=uj
@[go_sem] theorem Zyc:tz c 167=e [a i 0,a i 0,a i 0,a i 0,a i 0,a i 0,a i 0,a i 0,a i 0,a i 0,a i 0,a i 0,a i 0,a i 0,a i 0,a i 0]:=uj
@[go_sem] theorem ZsL:Ny c 167=l:=uj
@[go_sem] theorem ZoY:Xn c 167=e (16,145):=uj
@[go_sem] theorem ZsM:QP c 167=l:=uj
@[go_sem] theorem Zyd:tz c 185=e [a i 0,a i 0,a i 0,a i 0,a i 0,a i 0,a i 0,a i 0,a i 0,a i 0,a i 0,a i 0,a i 0,a i 0,a i 0,a i 0,a i 0,a i 0,a i 0,a i 0,a i 0,a i 0,a i 0,a i 0,a i 0,a i 0,a i 0,a i 0,a i 0,a i 0,a i 0,a i 0,a i 0,a i 0,a i 0,a i 0,a i 0,a i 0,a i 0,a i 0,a i 0,a i 0,a i 0,a i 0,a i 0,a i 0,a i 0,a i 0,a i 0,a i 0,a i 0,a i 0,a i 0,a i 0,a i 0,a i 0,a i 0,a i 0,a i 0,a i 0,a i 0,a i 0,a i 0,a i 0]:=uj
@[go_sem] theorem ZoZ:Xn c 185=e (64,145):=uj
@[go_sem] theorem ZsN:QP c 185=l:=uj
@[go_sem] theorem Zye:tz c 188=e [a d 0,a d 0,a d 0,a d 0]:=uj
@[go_sem] theorem ZsO:Ny c 188=l:=uj
@[go_sem] theorem Zo0:Xn c 188=e (4,3):=uj
@[go_sem] theorem ZsP:QP c 188=l:=uj
@[go_sem] theorem Zo1:Vf c 188=false:=uj
@[go_sem] theorem Zyf:tz c 189=e [a d 0,a d 0,a d 0]:=uj
@[go_sem] theorem ZsQ:Ny c 189=l:=uj
@[go_sem] theorem Zo2:Xn c 189=e (3,3):=uj
@[go_sem] theorem Zo3:Vf c 189=false:=uj
@[go_sem] theorem Zyg:tn c 190=e 1:=uj
@[go_sem] theorem Zyh:ta c 190=e false:=uj
@[go_sem] theorem Zo4:Ex c 190=e o:=uj
@[go_sem] theorem Zyi:tn c 192=e 5:=uj
@[go_sem] theorem Zyj:ta c 192=e true:=uj
@[go_sem] theorem Zyk:tz c 192=e [a o 0,a o 0,a o 0,a o 0,a o 0]:=uj
@[go_sem] theorem ZsR:Ny c 192=l:=uj
@[go_sem] theorem Zo5:Xn c 192=e (5,190):=uj
@[go_sem] theorem ZsS:QP c 192=l:=uj
@[go_sem] theorem Zo6:Vf c 192=false:=uj
@[go_sem] theorem Zyl:tz c 194=e [a j 0,a j 0,a j 0,a j 0,a j 0,a j 0,a j 0,a j 0,a j 0,a j 0,a j 0,a j 0,a j 0,a j 0,a j 0,a j 0,a j 0]:=uj
@[go_sem] theorem Zo7:Xn c 194=e (17,5):=uj
@[go_sem] theorem ZsT:QP c 194=l:=uj
@[go_sem] theorem Zo8:Vf c 194=false:=uj
@[go_sem] theorem Zym:tn c 201=e 0:=uj
@[go_sem] theorem Zyn:tz c 201=e []:=uj
@[go_sem] theorem ZsU:Ny c 201=e []:=uj
@[go_sem] theorem Zo9:Xn c 201=l:=uj
@[go_sem] theorem Zpa:Xn c 227=l:=uj
@[go_sem] theorem Zgz:QP c 227=e 102:=uj
@[go_sem] theorem Zpb:Xn c 234=l:=uj
@[go_sem] theorem ZsV:QP c 234=e 3:=uj
@[go_sem] theorem go4:goes c 4=true:=uj
@[go_sem] theorem go5:goes c 5=true:=uj
@[go_sem] theorem go6:goes c 6=true:=uj
@[go_sem] theorem go7:goes c 7=true:=uj
@[go_sem] theorem go8:goes c 8=true:=uj
@[go_sem] theorem go9:goes c 9=true:=uj
@[go_sem] theorem ZC6:goes c 10=true:=uj
@[go_sem] theorem ZC7:goes c 11=true:=uj
@[go_sem] theorem ZC8:goes c 12=true:=uj
@[go_sem] theorem ZC9:goes c 13=true:=uj
@[go_sem] theorem ZDa:goes c 14=true:=uj
@[go_sem] theorem ZDb:goes c 15=true:=uj
@[go_sem] theorem ZDc:goes c 16=true:=uj
@[go_sem] theorem ZDd:goes c 17=true:=uj
@[go_sem] theorem ZDe:goes c 18=true:=uj
@[go_sem] theorem ZDf:goes c 19=true:=uj
@[go_sem] theorem ZDg:goes c 20=true:=uj
@[go_sem] theorem ZDh:goes c 21=true:=uj
@[go_sem] theorem ZDi:goes c 22=true:=uj
@[go_sem] theorem ZDj:goes c 23=true:=uj
@[go_sem] theorem ZDk:goes c 24=true:=uj
@[go_sem] theorem ZDl:goes c 25=true:=uj
@[go_sem] theorem ZDm:goes c 26=true:=uj
@[go_sem] theorem ZDn:goes c 27=true:=uj
@[go_sem] theorem ZDo:goes c 28=true:=uj
@[go_sem] theorem ZDp:goes c 29=true:=uj
@[go_sem] theorem ZDq:goes c 30=true:=uj
@[go_sem] theorem ZDr:goes c 31=true:=uj
@[go_sem] theorem ZDs:goes c 32=true:=uj
@[go_sem] theorem ZDt:goes c 33=true:=uj
@[go_sem] theorem ZDu:goes c 34=true:=uj
@[go_sem] theorem ZDv:goes c 35=true:=uj
@[go_sem] theorem ZDw:goes c 36=true:=uj
@[go_sem] theorem ZDx:goes c 37=true:=uj
@[go_sem] theorem ZDy:goes c 38=true:=uj
@[go_sem] theorem ZDz:goes c 39=true:=uj
@[go_sem] theorem ZDA:goes c 40=true:=uj
@[go_sem] theorem ZDB:goes c 41=true:=uj
@[go_sem] theorem ZDC:goes c 42=true:=uj
@[go_sem] theorem ZDD:goes c 43=true:=uj
@[go_sem] theorem ZDE:goes c 44=true:=uj
@[go_sem] theorem ZDF:goes c 45=true:=uj
@[go_sem] theorem ZDG:goes c 46=true:=uj
@[go_sem] theorem ZDH:goes c 47=true:=uj
@[go_sem] theorem ZDI:goes c 48=true:=uj
@[go_sem] theorem ZDJ:goes c 49=true:=uj
@[go_sem] theorem ZDK:goes c 50=true:=uj
@[go_sem] theorem ZDL:goes c 51=true:=uj
@[go_sem] theorem ZDM:goes c 52=true:=uj
@[go_sem] theorem ZDN:goes c 53=true:=uj
@[go_sem] theorem ZDO:goes c 54=true:=uj
@[go_sem] theorem ZDP:goes c 55=true:=uj
@[go_sem] theorem ZDQ:goes c 56=true:=uj
@[go_sem] theorem ZDR:goes c 57=true:=uj
@[go_sem] theorem ZDS:goes c 58=true:=uj
@[go_sem] theorem ZDT:goes c 59=true:=uj
@[go_sem] theorem ZDU:goes c 60=true:=uj
@[go_sem] theorem ZDV:goes c 61=true:=uj
@[go_sem] theorem ZDW:goes c 62=true:=uj
@[go_sem] theorem ZDX:goes c 63=true:=uj
@[go_sem] theorem ZDY:goes c 64=true:=uj
@[go_sem] theorem ZDZ:goes c 65=true:=uj
@[go_sem] theorem ZD0:goes c 66=true:=uj
@[go_sem] theorem ZD1:goes c 67=true:=uj
@[go_sem] theorem ZD2:goes c 68=true:=uj
@[go_sem] theorem ZD3:goes c 69=true:=uj
@[go_sem] theorem ZD4:goes c 70=true:=uj
@[go_sem] theorem ZD5:goes c 71=true:=uj
@[go_sem] theorem ZD6:goes c 72=true:=uj
@[go_sem] theorem ZD7:goes c 73=true:=uj
@[go_sem] theorem ZD8:goes c 74=true:=uj
@[go_sem] theorem ZD9:goes c 75=true:=uj
@[go_sem] theorem ZEa:goes c 76=true:=uj
@[go_sem] theorem ZEb:goes c 77=true:=uj
@[go_sem] theorem ZEc:goes c 78=true:=uj
@[go_sem] theorem ZEd:goes c 79=true:=uj
@[go_sem] theorem ZEe:goes c 80=true:=uj
@[go_sem] theorem ZEf:goes c 81=true:=uj
@[go_sem] theorem ZEg:goes c 82=true:=uj
@[go_sem] theorem ZEh:goes c 83=true:=uj
@[go_sem] theorem ZEi:goes c 84=true:=uj
@[go_sem] theorem ZEj:goes c 85=true:=uj
@[go_sem] theorem ZEk:goes c 86=true:=uj
@[go_sem] theorem ZEl:goes c 87=true:=uj
@[go_sem] theorem ZEm:goes c 88=true:=uj
@[go_sem] theorem ZEn:goes c 89=true:=uj
@[go_sem] theorem ZEo:goes c 90=true:=uj
@[go_sem] theorem ZEp:goes c 91=true:=uj
@[go_sem] theorem ZEq:goes c 92=true:=uj
@[go_sem] theorem ZEr:goes c 93=true:=uj
@[go_sem] theorem ZEs:goes c 94=true:=uj
@[go_sem] theorem ZEt:goes c 95=true:=uj
@[go_sem] theorem ZEu:goes c 96=true:=uj
@[go_sem] theorem ZEv:goes c 97=true:=uj
@[go_sem] theorem ZEw:goes c 98=true:=uj
@[go_sem] theorem ZEx:goes c 99=true:=uj
@[go_sem] theorem Zyo:goes c 100=true:=uj
@[go_sem] theorem Zyp:goes c 101=true:=uj
@[go_sem] theorem Zyq:goes c 102=true:=uj
@[go_sem] theorem Zyr:goes c 103=true:=uj
@[go_sem] theorem Zys:goes c 105=true:=uj
@[go_sem] theorem Zyt:goes c 107=true:=uj
@[go_sem] theorem Zyu:goes c 108=true:=uj
@[go_sem] theorem Zyv:goes c 110=true:=uj
@[go_sem] theorem Zyw:goes c 111=true:=uj
@[go_sem] theorem Zyx:goes c 114=true:=uj
@[go_sem] theorem Zyy:goes c 115=true:=uj
@[go_sem] theorem Zyz:goes c 116=true:=uj
@[go_sem] theorem ZyA:goes c 117=true:=uj
@[go_sem] theorem ZyB:goes c 118=true:=uj
@[go_sem] theorem ZyC:goes c 119=true:=uj
@[go_sem] theorem ZyD:goes c 120=true:=uj
@[go_sem] theorem ZyE:goes c 121=true:=uj
@[go_sem] theorem ZyF:goes c 122=true:=uj
@[go_sem] theorem ZyG:goes c 123=true:=uj
@[go_sem] theorem ZyH:goes c 124=true:=uj
@[go_sem] theorem ZyI:goes c 125=true:=uj
@[go_sem] theorem ZyJ:goes c 126=true:=uj
@[go_sem] theorem ZyK:goes c 127=true:=uj
@[go_sem] theorem ZyL:goes c 129=true:=uj
@[go_sem] theorem ZyM:goes c 130=true:=uj
@[go_sem] theorem ZyN:goes c 131=true:=uj
@[go_sem] theorem ZyO:goes c 132=true:=uj
@[go_sem] theorem ZyP:goes c 133=true:=uj
@[go_sem] theorem ZyQ:goes c 134=true:=uj
@[go_sem] theorem ZyR:goes c 135=true:=uj
def Dy:List Nat:=[104,97,114,110,101,115,115,32,97,50,54,53,101,54,100,57,55,101,98,55,51,102,100,53,57,57,54,99,98,100,101,57,53,100,101,53,100,49,99,53,55,51,55,54,99,49,102,102,97,102,52,57,97,97,98,98,98,50,98,101,57,55,97,53,57,48,54,52,56,100,49,98,32,99,117,116,32,97,116,32,99,111,110,99,108,97,118,101,47,99,111,110,99,108,97,118,101,116,111,112,46,84,111,112,82,101,118,111,107,101,100]
theorem iq:∃rest,Go.behindMainWord (Go.wordsSigns Tryz.prog.initOrder.toList) = "cut".toList :: rest:=
 pD (L:=Dy.map Char.ofNat) uj uj
theorem Zk5:Tryz.prog.make=e .cut:=iq.elim fun _ h=>wu h
theorem ZgA:Tryz.prog.liftsFinal=false:=iq.elim fun _ h=>pB h
theorem ZgB:Tryz.prog.mayEnter=true:=iq.elim fun _ h=>pC h uj uj uj
theorem xp:Go.ownKnob Tryz.prog.godebug=l:=uj
theorem xq:Go.laidOutB c=true:=uj
theorem mixed:Tryz.prog.follows .mixedOrders=true:=uj
end Go.Proofs.YtdapjaalaomghaaGreatDoor

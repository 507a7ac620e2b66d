/- Part Ty. -/
import Derived.Test.YthlfaofofaphfaaGreatDoorRows
import Derived.Test.YthlfaofofaphfaaGreatDoorV9
import Derived.Test.YthlfaofofaphfaaGreatDoorW3
import Derived.KernelRfl
open Go.Value renaming int→a,bool→k,slice→m,pointer→n
open Go.IntKind renaming i64→d,u32→i,u8→j,u64→o
open Go.Proofs.Tryz renaming prog→c
open Option renaming some→e,none→l
namespace Go.Proofs.YthlfaofofaphfaaGreatDoor
open Go.V
set_option maxRecDepth 100000
@[go_sem] theorem tn1:tn c 1=e 1:=vM
@[go_sem] theorem tb1:tb c 1=e 8:=vM
@[go_sem] theorem ta1:ta c 1=e false:=vM
@[go_sem] theorem tz1:tz c 1=e [.nilFunc]:=vM
@[go_sem] theorem iO:tb c 2=e 8:=vM
@[go_sem] theorem tn3:tn c 3=e 1:=vM
@[go_sem] theorem tb3:tb c 3=e 8:=vM
@[go_sem] theorem ta3:ta c 3=e false:=vM
@[go_sem] theorem tz3:tz c 3=e [a d 0]:=vM
@[go_sem] theorem ZxY:EO c 3=e d:=vM
@[go_sem] theorem tn4:tn c 4=e 1:=vM
@[go_sem] theorem tb4:tb c 4=e 1:=vM
@[go_sem] theorem ta4:ta c 4=e false:=vM
@[go_sem] theorem ZxZ:ZcQ c 4=true:=vM
@[go_sem] theorem TA:tn c 5=e 1:=vM
@[go_sem] theorem Sm:tb c 5=e 1:=vM
@[go_sem] theorem ta5:ta c 5=e false:=vM
@[go_sem] theorem Sn:tz c 5=e [a j 0]:=vM
@[go_sem] theorem Zx0:EO c 5=e j:=vM
@[go_sem] theorem ZDf:tn c 23=e 5:=vM
@[go_sem] theorem ZDg:ta c 23=e true:=vM
@[go_sem] theorem ZrN:tf c 23 0=e 0:=vM
@[go_sem] theorem ZrO:tf c 23 1=e 1:=vM
@[go_sem] theorem ZrP:tf c 23 2=e 2:=vM
@[go_sem] theorem ZrQ:tf c 23 3=e 3:=vM
@[go_sem] theorem ZrR:tf c 23 4=e 4:=vM
@[go_sem] theorem ZrS:Xx c 24=l:=vM
@[go_sem] theorem Zx1:QY c 24=e 3:=vM
@[go_sem] theorem ZgZ:tn c 25=e 5:=vM
@[go_sem] theorem Zk9:tb c 25=e 40:=vM
@[go_sem] theorem ZDh:ta c 25=e true:=vM
@[go_sem] theorem yu:tz c 25=e [a d 0,a d 0,a d 0,a d 0,a d 0]:=vM
@[go_sem] theorem ZrT:tf c 25 0=e 0:=vM
@[go_sem] theorem ZrU:tf c 25 1=e 1:=vM
@[go_sem] theorem ZrV:tf c 25 2=e 2:=vM
@[go_sem] theorem ZrW:tf c 25 3=e 3:=vM
@[go_sem] theorem ZrX:tf c 25 4=e 4:=vM
@[go_sem] theorem Zx2:NS c 25=e [(0,1),(1,1),(2,1),(3,1),(4,1)]:=vM
@[go_sem] theorem Zx3:teg c 25=false:=vM
@[go_sem] theorem Zoz:flat c 6 25=e [e d,e d,e d,e d,e d]:=vM
@[go_sem] theorem ZrY:Xx c 25=l:=vM
@[go_sem] theorem ZrZ:Xx c 27=l:=vM
@[go_sem] theorem Zfu:QY c 27=e 36:=vM
@[go_sem] theorem ZDi:tn c 28=e 1:=vM
@[go_sem] theorem ZDj:ta c 28=e false:=vM
@[go_sem] theorem Zr0:Xx c 28=l:=vM
@[go_sem] theorem Xl:QY c 28=e 5:=vM
@[go_sem] theorem Zr1:Vf c 28=false:=vM
@[go_sem] theorem ZDk:tn c 29=e 1:=vM
@[go_sem] theorem ZDl:ta c 29=e false:=vM
@[go_sem] theorem ZDm:tn c 33=e 3:=vM
@[go_sem] theorem ZDn:ta c 33=e true:=vM
@[go_sem] theorem ZDo:tz c 33=e [a d 0,a d 0,a d 0]:=vM
@[go_sem] theorem Zr2:tf c 33 0=e 0:=vM
@[go_sem] theorem Zr3:tf c 33 1=e 1:=vM
@[go_sem] theorem Zr4:tf c 33 2=e 2:=vM
@[go_sem] theorem Zx4:NS c 33=e [(0,1),(1,1),(2,1)]:=vM
@[go_sem] theorem Zr5:Xx c 33=l:=vM
@[go_sem] theorem Zla:tn c 36=e 5:=vM
@[go_sem] theorem Zlb:tb c 36=e 56:=vM
@[go_sem] theorem ZDp:ta c 36=e true:=vM
@[go_sem] theorem Zlc:tz c 36=e [a d 0,a d 0,a d 0,a d 0,m l 0 0]:=vM
@[go_sem] theorem Zr6:tf c 36 0=e 0:=vM
@[go_sem] theorem Zr7:tf c 36 1=e 1:=vM
@[go_sem] theorem Zr8:tf c 36 2=e 2:=vM
@[go_sem] theorem Zr9:tf c 36 3=e 3:=vM
@[go_sem] theorem Zsa:tf c 36 4=e 4:=vM
@[go_sem] theorem Zx5:NS c 36=e [(0,1),(1,1),(2,1),(3,1),(4,1)]:=vM
@[go_sem] theorem Zsb:Xx c 36=l:=vM
@[go_sem] theorem Zsc:Xx c 37=e (5,4):=vM
@[go_sem] theorem Zx6:QY c 37=l:=vM
@[go_sem] theorem ZDq:tn c 38=e 1:=vM
@[go_sem] theorem ZDr:ta c 38=e false:=vM
@[go_sem] theorem Zsd:Xx c 38=l:=vM
@[go_sem] theorem Zld:QY c 38=e 46:=vM
@[go_sem] theorem Zse:Xx c 39=e (5,3):=vM
@[go_sem] theorem Zx7:QY c 39=l:=vM
@[go_sem] theorem ZDs:tn c 40=e 1:=vM
@[go_sem] theorem ZDt:ta c 40=e false:=vM
@[go_sem] theorem Zle:QY c 40=e 152:=vM
@[go_sem] theorem ZDu:tn c 42=e 13:=vM
@[go_sem] theorem ZDv:ta c 42=e true:=vM
@[go_sem] theorem ZDw:tz c 42=e [a d 0,k false,k false,k false,k false,k false,m l 0 0,a d 0,a d 0,a d 0,a d 0,a d 0,m l 0 0]:=vM
@[go_sem] theorem Zsf:tf c 42 0=e 0:=vM
@[go_sem] theorem Zsg:tf c 42 1=e 1:=vM
@[go_sem] theorem Zsh:tf c 42 2=e 6:=vM
@[go_sem] theorem Zsi:tf c 42 3=e 7:=vM
@[go_sem] theorem Zsj:tf c 42 4=e 12:=vM
@[go_sem] theorem Zx8:NS c 42=e [(0,1),(1,5),(6,1),(7,5),(12,1)]:=vM
@[go_sem] theorem Zsk:Xx c 42=l:=vM
@[go_sem] theorem Zsl:tn c 46=e 1:=vM
@[go_sem] theorem Zsm:tb c 46=e 24:=vM
@[go_sem] theorem ZDx:ta c 46=e false:=vM
@[go_sem] theorem Zsn:tz c 46=e [m l 0 0]:=vM
@[go_sem] theorem Zso:Xx c 46=l:=vM
@[go_sem] theorem aV:QY c 46=e 25:=vM
@[go_sem] theorem Zsp:Vf c 46=false:=vM
@[go_sem] theorem Zlf:QY c 48=e 76:=vM
@[go_sem] theorem ZDy:tn c 49=e 8:=vM
@[go_sem] theorem ZDz:ta c 49=e true:=vM
@[go_sem] theorem Zsq:Xx c 49=e (8,3):=vM
@[go_sem] theorem Zx9:QY c 49=l:=vM
@[go_sem] theorem Zsr:Vf c 49=false:=vM
@[go_sem] theorem ZDA:tn c 51=e 2:=vM
@[go_sem] theorem ZDB:ta c 51=e true:=vM
@[go_sem] theorem ZDC:tz c 51=e [a d 0,a d 0]:=vM
@[go_sem] theorem Zss:tf c 51 0=e 0:=vM
@[go_sem] theorem Zst:tf c 51 1=e 1:=vM
@[go_sem] theorem Zya:NS c 51=e [(0,1),(1,1)]:=vM
@[go_sem] theorem Zyb:teg c 51=false:=vM
@[go_sem] theorem ZoA:flat c 6 51=e [e d,e d]:=vM
@[go_sem] theorem Zsu:Xx c 51=l:=vM
@[go_sem] theorem Zsv:Xx c 52=e (8,51):=vM
@[go_sem] theorem Zyc:QY c 52=l:=vM
@[go_sem] theorem ZDD:tn c 53=e 8:=vM
@[go_sem] theorem ZDE:ta c 53=e true:=vM
@[go_sem] theorem ZDF:tz c 53=e [k false,k false,k false,k false,k false,k false,k false,k false]:=vM
@[go_sem] theorem Zyd:NS c 53=l:=vM
@[go_sem] theorem Zsw:Xx c 53=e (8,4):=vM
@[go_sem] theorem Zye:QY c 53=l:=vM
@[go_sem] theorem Zsx:Vf c 53=false:=vM
@[go_sem] theorem ZDG:tn c 55=e 40:=vM
@[go_sem] theorem ZDH:ta c 55=e true:=vM
@[go_sem] theorem ZDI:tz c 55=e [a d 0,a d 0,a d 0,a d 0,a d 0,a d 0,a d 0,a d 0,a d 0,a d 0,a d 0,a d 0,a d 0,a d 0,a d 0,a d 0,a d 0,a d 0,a d 0,a d 0,a d 0,a d 0,a d 0,a d 0,a d 0,a d 0,a d 0,a d 0,a d 0,a d 0,a d 0,a d 0,k false,k false,k false,k false,k false,k false,k false,k false]:=vM
@[go_sem] theorem Zsy:tf c 55 0=e 0:=vM
@[go_sem] theorem Zsz:tf c 55 1=e 8:=vM
@[go_sem] theorem ZsA:tf c 55 2=e 16:=vM
@[go_sem] theorem ZsB:tf c 55 3=e 32:=vM
@[go_sem] theorem Zyf:NS c 55=e [(0,8),(8,8),(16,16),(32,8)]:=vM
@[go_sem] theorem Zyg:teg c 55=false:=vM
@[go_sem] theorem ZoB:flat c 6 55=e [e d,e d,e d,e d,e d,e d,e d,e d,e d,e d,e d,e d,e d,e d,e d,e d,e d,e d,e d,e d,e d,e d,e d,e d,e d,e d,e d,e d,e d,e d,e d,e d,l,l,l,l,l,l,l,l]:=vM
@[go_sem] theorem ZsC:Xx c 55=l:=vM
@[go_sem] theorem ZDJ:tn c 66=e 11:=vM
@[go_sem] theorem ZDK:ta c 66=e true:=vM
@[go_sem] theorem ZDL:tz c 66=e [m l 0 0,a d 0,a d 0,k false,k false,k false,k false,k false,k false,k false,k false]:=vM
@[go_sem] theorem ZsD:tf c 66 0=e 0:=vM
@[go_sem] theorem ZsE:tf c 66 1=e 1:=vM
@[go_sem] theorem ZsF:tf c 66 2=e 2:=vM
@[go_sem] theorem ZsG:tf c 66 3=e 3:=vM
@[go_sem] theorem Zyh:NS c 66=e [(0,1),(1,1),(2,1),(3,8)]:=vM
@[go_sem] theorem ZsH:Xx c 66=l:=vM
@[go_sem] theorem ZsI:tn c 76=e 8:=vM
@[go_sem] theorem ZsJ:tb c 76=e 80:=vM
@[go_sem] theorem ZsK:tz c 76=e [a d 0,a d 0,a d 0,a d 0,a d 0,a d 0,a d 0,m l 0 0]:=vM
@[go_sem] theorem Zyi:NS c 76=e [(0,5),(5,2),(7,1)]:=vM
@[go_sem] theorem ZsL:Xx c 76=l:=vM
@[go_sem] theorem ZDM:tn c 82=e 1:=vM
@[go_sem] theorem ZDN:ta c 82=e false:=vM
@[go_sem] theorem ZDO:tn c 83=e 5:=vM
@[go_sem] theorem ZDP:ta c 83=e true:=vM
@[go_sem] theorem ZDQ:tz c 83=e [n l,n l,n l,n l,n l]:=vM
@[go_sem] theorem Zyj:NS c 83=l:=vM
@[go_sem] theorem ZsM:Xx c 83=e (5,82):=vM
@[go_sem] theorem ZsN:Vf c 83=false:=vM
@[go_sem] theorem ZDR:tn c 91=e 1:=vM
@[go_sem] theorem ZDS:ta c 91=e false:=vM
@[go_sem] theorem ZDT:tn c 94=e 1:=vM
@[go_sem] theorem ZDU:ta c 94=e false:=vM
@[go_sem] theorem ZsO:Xx c 94=l:=vM
@[go_sem] theorem Zlg:QY c 94=e 98:=vM
@[go_sem] theorem ZDV:tn c 95=e 1:=vM
@[go_sem] theorem ZDW:ta c 95=e false:=vM
@[go_sem] theorem ZsP:Xx c 95=l:=vM
@[go_sem] theorem mL:QY c 95=e 135:=vM
@[go_sem] theorem ZsQ:Vf c 95=false:=vM
@[go_sem] theorem ZDX:tz c 97=e [m l 0 0,m l 0 0,a d 0,k false,k false,k false,k false,k false,m l 0 0,a d 0,a d 0,a d 0,a d 0,a d 0,m l 0 0]:=vM
@[go_sem] theorem ZsR:tf c 97 0=e 0:=vM
@[go_sem] theorem ZsS:tf c 97 1=e 1:=vM
@[go_sem] theorem ZsT:tf c 97 2=e 2:=vM
@[go_sem] theorem Zyk:NS c 97=e [(0,1),(1,1),(2,13)]:=vM
@[go_sem] theorem ZsU:Xx c 97=l:=vM
@[go_sem] theorem ZsV:tn c 98=e 1:=vM
@[go_sem] theorem ZsW:tb c 98=e 8:=vM
@[go_sem] theorem ZDY:ta c 98=e false:=vM
@[go_sem] theorem ZsX:tz c 98=e [n l]:=vM
@[go_sem] theorem Zyl:tn c 100=e 2:=vM
@[go_sem] theorem Zym:ta c 100=e true:=vM
@[go_sem] theorem Zyn:tz c 100=e [m l 0 0,a d 0]:=vM
@[go_sem] theorem ZoC:tf c 100 0=e 0:=vM
@[go_sem] theorem ZoD:tf c 100 1=e 1:=vM
@[go_sem] theorem ZsY:NS c 100=e [(0,1),(1,1)]:=vM
@[go_sem] theorem ZoE:Xx c 100=l:=vM
@[go_sem] theorem Zyo:tn c 102=e 2:=vM
@[go_sem] theorem Zyp:ta c 102=e true:=vM
@[go_sem] theorem Zyq:tz c 102=e [a d 0,a d 0]:=vM
@[go_sem] theorem ZoF:tf c 102 0=e 0:=vM
@[go_sem] theorem ZoG:tf c 102 1=e 1:=vM
@[go_sem] theorem ZsZ:NS c 102=e [(0,1),(1,1)]:=vM
@[go_sem] theorem Zs0:teg c 102=false:=vM
@[go_sem] theorem Zlh:flat c 6 102=e [e d,e d]:=vM
@[go_sem] theorem ZoH:Xx c 102=l:=vM
@[go_sem] theorem Zli:tn c 103=e 1:=vM
@[go_sem] theorem Zlj:tb c 103=e 24:=vM
@[go_sem] theorem Zyr:ta c 103=e false:=vM
@[go_sem] theorem Zlk:tz c 103=e [m l 0 0]:=vM
@[go_sem] theorem ZoI:Xx c 103=l:=vM
@[go_sem] theorem Om:QY c 103=e 133:=vM
@[go_sem] theorem ZoJ:Vf c 103=false:=vM
@[go_sem] theorem Zys:tn c 105=e 3:=vM
@[go_sem] theorem Zyt:ta c 105=e true:=vM
@[go_sem] theorem Zyu:tz c 105=e [a d 0,a d 0,m l 0 0]:=vM
@[go_sem] theorem ZoK:tf c 105 0=e 0:=vM
@[go_sem] theorem ZoL:tf c 105 1=e 2:=vM
@[go_sem] theorem Zs1:NS c 105=e [(0,2),(2,1)]:=vM
@[go_sem] theorem ZoM:Xx c 105=l:=vM
@[go_sem] theorem Zyv:tn c 106=e 1:=vM
@[go_sem] theorem Zyw:ta c 106=e false:=vM
@[go_sem] theorem Zyx:tn c 107=e 1:=vM
@[go_sem] theorem Zyy:ta c 107=e false:=vM
@[go_sem] theorem Zyz:tz c 109=e [a d 0,k false,m l 0 0,a d 0,a d 0,a d 0,m l 0 0,a d 0,a d 0,n l,.map l,m l 0 0,a d 0,a d 0,a d 0,a d 0,a d 0,a d 0,a d 0,a d 0,a d 0,a d 0,a d 0,a d 0,a d 0,a d 0,a d 0,a d 0,a d 0,a d 0,a d 0,a d 0,a d 0,a d 0,a d 0,a d 0,a d 0,a d 0,a d 0,a d 0,a d 0,a d 0,a d 0,a d 0,k false,k false,k false,k false,k false,k false,k false,k false,m l 0 0,m l 0 0,m l 0 0,.nilFunc,a d 0]:=vM
@[go_sem] theorem ZoN:tf c 109 0=e 0:=vM
@[go_sem] theorem ZoO:tf c 109 1=e 1:=vM
@[go_sem] theorem ZoP:tf c 109 2=e 2:=vM
@[go_sem] theorem ZoQ:tf c 109 3=e 4:=vM
@[go_sem] theorem ZoR:tf c 109 4=e 7:=vM
@[go_sem] theorem ZoS:tf c 109 5=e 9:=vM
@[go_sem] theorem ZoT:tf c 109 6=e 10:=vM
@[go_sem] theorem ZoU:tf c 109 7=e 11:=vM
@[go_sem] theorem ZoV:tf c 109 8=e 12:=vM
@[go_sem] theorem ZoW:tf c 109 9=e 52:=vM
@[go_sem] theorem Zll:tf c 109 10=e 53:=vM
@[go_sem] theorem Zlm:tf c 109 11=e 54:=vM
@[go_sem] theorem Zln:tf c 109 12=e 55:=vM
@[go_sem] theorem Zlo:tf c 109 13=e 56:=vM
@[go_sem] theorem Zs2:NS c 109=e [(0,1),(1,1),(2,2),(4,3),(7,2),(9,1),(10,1),(11,1),(12,40),(52,1),(53,1),(54,1),(55,1),(56,1)]:=vM
@[go_sem] theorem ZoX:Xx c 109=l:=vM
@[go_sem] theorem ZyA:tz c 114=e [a d 0,a d 0]:=vM
@[go_sem] theorem Zs3:NS c 114=l:=vM
@[go_sem] theorem ZoY:Xx c 114=e (2,3):=vM
@[go_sem] theorem ZoZ:Vf c 114=false:=vM
@[go_sem] theorem Zo0:EO c 115=e o:=vM
@[go_sem] theorem Zo1:Xx c 122=l:=vM
@[go_sem] theorem Zs4:QY c 122=e 127:=vM
@[go_sem] theorem ZyB:tn c 127=e 2:=vM
@[go_sem] theorem ZyC:ta c 127=e true:=vM
@[go_sem] theorem ZyD:tz c 127=e [n l,a d 0]:=vM
@[go_sem] theorem Zo2:tf c 127 0=e 0:=vM
@[go_sem] theorem Zo3:tf c 127 1=e 1:=vM
@[go_sem] theorem Zs5:NS c 127=e [(0,1),(1,1)]:=vM
@[go_sem] theorem Zo4:Xx c 127=l:=vM
@[go_sem] theorem Lw:tn c 133=e 8:=vM
@[go_sem] theorem mM:tb c 133=e 64:=vM
@[go_sem] theorem ZyE:ta c 133=e true:=vM
@[go_sem] theorem mN:tz c 133=e [a d 0,a d 0,a d 0,a d 0,a d 0,a d 0,a d 0,a d 0]:=vM
@[go_sem] theorem Zo5:tf c 133 0=e 0:=vM
@[go_sem] theorem Zo6:tf c 133 1=e 1:=vM
@[go_sem] theorem Zo7:tf c 133 2=e 3:=vM
@[go_sem] theorem Zs6:NS c 133=e [(0,1),(1,2),(3,5)]:=vM
@[go_sem] theorem Zs7:teg c 133=false:=vM
@[go_sem] theorem Zlp:flat c 6 133=e [e d,e d,e d,e d,e d,e d,e d,e d]:=vM
@[go_sem] theorem Zo8:Xx c 133=l:=vM
@[go_sem] theorem yv:tn c 135=e 14:=vM
@[go_sem] theorem Zfv:tb c 135=e 128:=vM
@[go_sem] theorem ZyF:ta c 135=e true:=vM
@[go_sem] theorem mO:tz c 135=e [a d 0,a d 0,a d 0,a d 0,a d 0,a d 0,a d 0,a d 0,a d 0,a d 0,a d 0,a d 0,a d 0,m l 0 0]:=vM
@[go_sem] theorem Zo9:tf c 135 0=e 0:=vM
@[go_sem] theorem Zpa:tf c 135 1=e 1:=vM
@[go_sem] theorem Zpb:tf c 135 2=e 2:=vM
@[go_sem] theorem Zpc:tf c 135 3=e 3:=vM
@[go_sem] theorem Zpd:tf c 135 4=e 5:=vM
@[go_sem] theorem Zpe:tf c 135 5=e 13:=vM
@[go_sem] theorem Zs8:NS c 135=e [(0,1),(1,1),(2,1),(3,2),(5,8),(13,1)]:=vM
@[go_sem] theorem Zpf:Xx c 135=l:=vM
@[go_sem] theorem ZyG:tn c 144=e 64:=vM
@[go_sem] theorem ZyH:ta c 144=e true:=vM
@[go_sem] theorem ZyI:tz c 144=e [a j 0,a j 0,a j 0,a j 0,a j 0,a j 0,a j 0,a j 0,a j 0,a j 0,a j 0,a j 0,a j 0,a j 0,a j 0,a j 0,a j 0,a j 0,a j 0,a j 0,a j 0,a j 0,a j 0,a j 0,a j 0,a j 0,a j 0,a j 0,a j 0,a j 0,a j 0,a j 0,a j 0,a j 0,a j 0,a j 0,a j 0,a j 0,a j 0,a j 0,a j 0,a j 0,a j 0,a j 0,a j 0,a j 0,a j 0,a j 0,a j 0,a j 0,a j 0,a j 0,a j 0,a j 0,a j 0,a j 0,a j 0,a j 0,a j 0,a j 0,a j 0,a j 0,a j 0,a j 0]:=vM
@[go_sem] theorem Zpg:Xx c 144=e (64,5):=vM
@[go_sem] theorem Zs9:QY c 144=l:=vM
@[go_sem] theorem Zph:Vf c 144=false:=vM
@[go_sem] theorem ZyJ:tn c 146=e 1:=vM
@[go_sem] theorem ZyK:ta c 146=e false:=vM
@[go_sem] theorem Zpi:EO c 146=e i:=vM
@[go_sem] theorem Zlq:tn c 152=e 5:=vM
@[go_sem] theorem Zlr:tb c 152=e 40:=vM
@[go_sem] theorem Zls:tz c 152=e [a d 0,a d 0,a d 0,a d 0,a d 0]:=vM
@[go_sem] theorem Zta:NS c 152=e [(0,1),(1,1),(2,1),(3,2)]:=vM
@[go_sem] theorem Zpj:Xx c 152=l:=vM
@[go_sem] theorem ZyL:tn c 154=e 1:=vM
@[go_sem] theorem ZyM:ta c 154=e false:=vM
@[go_sem] theorem ZyN:tn c 155=e 1:=vM
@[go_sem] theorem ZyO:ta c 155=e false:=vM
@[go_sem] theorem ZyP:tz c 157=e [a d 0,a d 0,.map l,k false,.map l,.map l]:=vM
@[go_sem] theorem Zpk:tf c 157 0=e 0:=vM
@[go_sem] theorem Zpl:tf c 157 1=e 2:=vM
@[go_sem] theorem Zpm:tf c 157 2=e 3:=vM
@[go_sem] theorem Zpn:tf c 157 3=e 4:=vM
@[go_sem] theorem Zpo:tf c 157 4=e 5:=vM
@[go_sem] theorem Ztb:NS c 157=e [(0,2),(2,1),(3,1),(4,1),(5,1)]:=vM
@[go_sem] theorem Zpp:Xx c 157=l:=vM
@[go_sem] theorem ZyQ:tn c 166=e 8:=vM
@[go_sem] theorem ZyR:ta c 166=e true:=vM
@[go_sem] theorem ZyS:tz c 166=e [a i 0,a i 0,a i 0,a i 0,a i 0,a i 0,a i 0,a i 0]:=vM
@[go_sem] theorem Ztc:NS c 166=l:=vM
@[go_sem] theorem Zpq:Xx c 166=e (8,146):=vM
@[go_sem] theorem Ztd:QY c 166=l:=vM
@[go_sem] theorem Zpr:Vf c 166=false:=vM
@[go_sem] theorem ZyT:tn c 169=e 16:=vM
@[go_sem] theorem ZyU:ta c 169=e true:=vM
@[go_sem] theorem ZyV:tz c 169=e [a i 0,a i 0,a i 0,a i 0,a i 0,a i 0,a i 0,a i 0,a i 0,a i 0,a i 0,a i 0,a i 0,a i 0,a i 0,a i 0]:=vM
@[go_sem] theorem Zte:NS c 169=l:=vM
@[go_sem] theorem Zps:Xx c 169=e (16,146):=vM
@[go_sem] theorem Ztf:QY c 169=l:=vM
@[go_sem] theorem ZyW:tz c 187=e [a i 0,a i 0,a i 0,a i 0,a i 0,a i 0,a i 0,a i 0,a i 0,a i 0,a i 0,a i 0,a i 0,a i 0,a i 0,a i 0,a i 0,a i 0,a i 0,a i 0,a i 0,a i 0,a i 0,a i 0,a i 0,a i 0,a i 0,a i 0,a i 0,a i 0,a i 0,a i 0,a i 0,a i 0,a i 0,a i 0,a i 0,a i 0,a i 0,a i 0,a i 0,a i 0,a i 0,a i 0,a i 0,a i 0,a i 0,a i 0,a i 0,a i 0,a i 0,a i 0,a i 0,a i 0,a i 0,a i 0,a i 0,a i 0,a i 0,a i 0,a i 0,a i 0,a i 0,a i 0]:=vM
@[go_sem] theorem Zpt:Xx c 187=e (64,146):=vM
@[go_sem] theorem Ztg:QY c 187=l:=vM
@[go_sem] theorem ZyX:tz c 190=e [a d 0,a d 0,a d 0,a d 0]:=vM
@[go_sem] theorem Zth:NS c 190=l:=vM
@[go_sem] theorem Zpu:Xx c 190=e (4,3):=vM
@[go_sem] theorem Zti:QY c 190=l:=vM
@[go_sem] theorem Zpv:Vf c 190=false:=vM
@[go_sem] theorem ZyY:tz c 191=e [a d 0,a d 0,a d 0]:=vM
@[go_sem] theorem Ztj:NS c 191=l:=vM
@[go_sem] theorem Zpw:Xx c 191=e (3,3):=vM
@[go_sem] theorem Zpx:Vf c 191=false:=vM
@[go_sem] theorem ZyZ:tn c 192=e 1:=vM
@[go_sem] theorem Zy0:ta c 192=e false:=vM
@[go_sem] theorem Zpy:EO c 192=e o:=vM
@[go_sem] theorem Zy1:tn c 194=e 5:=vM
@[go_sem] theorem Zy2:ta c 194=e true:=vM
@[go_sem] theorem Zy3:tz c 194=e [a o 0,a o 0,a o 0,a o 0,a o 0]:=vM
@[go_sem] theorem Ztk:NS c 194=l:=vM
@[go_sem] theorem Zpz:Xx c 194=e (5,192):=vM
@[go_sem] theorem Ztl:QY c 194=l:=vM
@[go_sem] theorem ZpA:Vf c 194=false:=vM
@[go_sem] theorem Zy4:tz c 196=e [a j 0,a j 0,a j 0,a j 0,a j 0,a j 0,a j 0,a j 0,a j 0,a j 0,a j 0,a j 0,a j 0,a j 0,a j 0,a j 0,a j 0]:=vM
@[go_sem] theorem ZpB:Xx c 196=e (17,5):=vM
@[go_sem] theorem Ztm:QY c 196=l:=vM
@[go_sem] theorem ZpC:Vf c 196=false:=vM
@[go_sem] theorem Zy5:tn c 203=e 0:=vM
@[go_sem] theorem Zy6:tz c 203=e []:=vM
@[go_sem] theorem Ztn:NS c 203=e []:=vM
@[go_sem] theorem ZpD:Xx c 203=l:=vM
@[go_sem] theorem ZpE:Xx c 229=l:=vM
@[go_sem] theorem Zg0:QY c 229=e 103:=vM
@[go_sem] theorem go5:goes c 5=true:=vM
@[go_sem] theorem go6:goes c 6=true:=vM
@[go_sem] theorem go7:goes c 7=true:=vM
@[go_sem] theorem go9:goes c 9=true:=vM
@[go_sem] theorem ZDZ:goes c 10=true:=vM
@[go_sem] theorem ZD0:goes c 11=true:=vM
@[go_sem] theorem ZD1:goes c 12=true:=vM
@[go_sem] theorem ZD2:goes c 13=true:=vM
@[go_sem] theorem ZD3:goes c 14=true:=vM
@[go_sem] theorem ZD4:goes c 15=true:=vM
@[go_sem] theorem ZD5:goes c 16=true:=vM
@[go_sem] theorem ZD6:goes c 17=true:=vM
@[go_sem] theorem ZD7:goes c 18=true:=vM
@[go_sem] theorem ZD8:goes c 19=true:=vM
@[go_sem] theorem ZD9:goes c 20=true:=vM
@[go_sem] theorem ZEa:goes c 21=true:=vM
@[go_sem] theorem ZEb:goes c 22=true:=vM
@[go_sem] theorem ZEc:goes c 23=true:=vM
@[go_sem] theorem ZEd:goes c 24=true:=vM
@[go_sem] theorem ZEe:goes c 25=true:=vM
@[go_sem] theorem ZEf:goes c 26=true:=vM
@[go_sem] theorem ZEg:goes c 27=true:=vM
@[go_sem] theorem ZEh:goes c 28=true:=vM
@[go_sem] theorem ZEi:goes c 29=true:=vM
@[go_sem] theorem ZEj:goes c 30=true:=vM
@[go_sem] theorem ZEk:goes c 31=true:=vM
@[go_sem] theorem ZEl:goes c 32=true:=vM
@[go_sem] theorem ZEm:goes c 33=true:=vM
@[go_sem] theorem ZEn:goes c 34=true:=vM
@[go_sem] theorem ZEo:goes c 35=true:=vM
@[go_sem] theorem ZEp:goes c 36=true:=vM
@[go_sem] theorem ZEq:goes c 37=true:=vM
@[go_sem] theorem ZEr:goes c 38=true:=vM
@[go_sem] theorem ZEs:goes c 39=true:=vM
@[go_sem] theorem ZEt:goes c 40=true:=vM
@[go_sem] theorem ZEu:goes c 41=true:=vM
@[go_sem] theorem ZEv:goes c 42=true:=vM
@[go_sem] theorem ZEw:goes c 43=true:=vM
@[go_sem] theorem ZEx:goes c 44=true:=vM
@[go_sem] theorem ZEy:goes c 45=true:=vM
@[go_sem] theorem ZEz:goes c 46=true:=vM
@[go_sem] theorem ZEA:goes c 47=true:=vM
@[go_sem] theorem ZEB:goes c 48=true:=vM
@[go_sem] theorem ZEC:goes c 49=true:=vM
@[go_sem] theorem ZED:goes c 50=true:=vM
@[go_sem] theorem ZEE:goes c 51=true:=vM
@[go_sem] theorem ZEF:goes c 52=true:=vM
@[go_sem] theorem ZEG:goes c 53=true:=vM
@[go_sem] theorem ZEH:goes c 54=true:=vM
@[go_sem] theorem ZEI:goes c 55=true:=vM
@[go_sem] theorem ZEJ:goes c 56=true:=vM
@[go_sem] theorem ZEK:goes c 57=true:=vM
@[go_sem] theorem ZEL:goes c 58=true:=vM
@[go_sem] theorem ZEM:goes c 59=true:=vM
@[go_sem] theorem ZEN:goes c 60=true:=vM
@[go_sem] theorem ZEO:goes c 61=true:=vM
@[go_sem] theorem ZEP:goes c 62=true:=vM
@[go_sem] theorem ZEQ:goes c 63=true:=vM
@[go_sem] theorem ZER:goes c 64=true:=vM
@[go_sem] theorem ZES:goes c 65=true:=vM
@[go_sem] theorem ZET:goes c 66=true:=vM
@[go_sem] theorem ZEU:goes c 67=true:=vM
@[go_sem] theorem ZEV:goes c 68=true:=vM
@[go_sem] theorem ZEW:goes c 69=true:=vM
@[go_sem] theorem ZEX:goes c 70=true:=vM
@[go_sem] theorem ZEY:goes c 71=true:=vM
@[go_sem] theorem ZEZ:goes c 72=true:=vM
@[go_sem] theorem ZE0:goes c 73=true:=vM
@[go_sem] theorem ZE1:goes c 74=true:=vM
@[go_sem] theorem ZE2:goes c 75=true:=vM
@[go_sem] theorem ZE3:goes c 76=true:=vM
@[go_sem] theorem ZE4:goes c 77=true:=vM
@[go_sem] theorem ZE5:goes c 78=true:=vM
@[go_sem] theorem ZE6:goes c 79=true:=vM
@[go_sem] theorem ZE7:goes c 80=true:=vM
@[go_sem] theorem ZE8:goes c 81=true:=vM
@[go_sem] theorem ZE9:goes c 82=true:=vM
@[go_sem] theorem ZFa:goes c 83=true:=vM
@[go_sem] theorem ZFb:goes c 84=true:=vM
@[go_sem] theorem ZFc:goes c 85=true:=vM
@[go_sem] theorem ZFd:goes c 86=true:=vM
@[go_sem] theorem ZFe:goes c 87=true:=vM
@[go_sem] theorem ZFf:goes c 88=true:=vM
@[go_sem] theorem ZFg:goes c 89=true:=vM
@[go_sem] theorem ZFh:goes c 90=true:=vM
@[go_sem] theorem ZFi:goes c 91=true:=vM
@[go_sem] theorem ZFj:goes c 92=true:=vM
@[go_sem] theorem ZFk:goes c 93=true:=vM
@[go_sem] theorem ZFl:goes c 94=true:=vM
@[go_sem] theorem ZFm:goes c 95=true:=vM
@[go_sem] theorem ZFn:goes c 96=true:=vM
@[go_sem] theorem ZFo:goes c 97=true:=vM
@[go_sem] theorem ZFp:goes c 98=true:=vM
@[go_sem] theorem ZFq:goes c 99=true:=vM
@[go_sem] theorem Zy7:goes c 100=true:=vM
@[go_sem] theorem Zy8:goes c 101=true:=vM
@[go_sem] theorem Zy9:goes c 102=true:=vM
@[go_sem] theorem Zza:goes c 103=true:=vM
@[go_sem] theorem Zzb:goes c 104=true:=vM
@[go_sem] theorem Zzc:goes c 105=true:=vM
@[go_sem] theorem Zzd:goes c 107=true:=vM
@[go_sem] theorem Zze:goes c 109=true:=vM
@[go_sem] theorem Zzf:goes c 110=true:=vM
@[go_sem] theorem Zzg:goes c 112=true:=vM
@[go_sem] theorem Zzh:goes c 113=true:=vM
@[go_sem] theorem Zzi:goes c 116=true:=vM
@[go_sem] theorem Zzj:goes c 117=true:=vM
@[go_sem] theorem Zzk:goes c 118=true:=vM
@[go_sem] theorem Zzl:goes c 119=true:=vM
@[go_sem] theorem Zzm:goes c 120=true:=vM
@[go_sem] theorem Zzn:goes c 121=true:=vM
@[go_sem] theorem Zzo:goes c 122=true:=vM
@[go_sem] theorem Zzp:goes c 123=true:=vM
@[go_sem] theorem Zzq:goes c 124=true:=vM
@[go_sem] theorem Zzr:goes c 125=true:=vM
@[go_sem] theorem Zzs:goes c 126=true:=vM
@[go_sem] theorem Zzt:goes c 127=true:=vM
@[go_sem] theorem Zzu:goes c 128=true:=vM
@[go_sem] theorem Zzv:goes c 129=true:=vM
@[go_sem] theorem Zzw:goes c 131=true:=vM
@[go_sem] theorem Zzx:goes c 132=true:=vM
@[go_sem] theorem Zzy:goes c 133=true:=vM
@[go_sem] theorem Zzz:goes c 134=true:=vM
@[go_sem] theorem ZzA:goes c 135=true:=vM
@[go_sem] theorem ZzB:goes c 136=true:=vM
@[go_sem] theorem ZzC:goes c 137=true:=vM
def KJ:List Nat:=[104,97,114,110,101,115,115,32,54,102,101,99,101,101,97,101,53,57,98,53,53,53,98,57,51,57,100,101,99,97,51,57,97,55,100,100,51,101,50,49,57,52,51,51,99,53,55,99,53,102,50,48,52,49,54,102,97,53,100,98,51,53,99,49,102,52,99,49,54,52,102,53,32,99,117,116,32,97,116,32,99,111,110,99,108,97,118,101,47,99,111,110,99,108,97,118,101,116,111,112,46,84,111,112,79,110,99,101,32,99,111,110,99,108,97,118,101,47,99,111,110,99,108,97,118,101,116,111,112,46,84,111,112,67,108,105,101,110,116,115]
theorem iP:∃rest,Go.behindMainWord (Go.wordsSigns Tryz.prog.initOrder.toList) = "cut".toList :: rest:=
 qv (L:=KJ.map Char.ofNat) vM vM
theorem Zfw:Tryz.prog.make=e .cut:=iP.elim fun _ h=>xW h
theorem yw:Tryz.prog.liftsFinal=false:=iP.elim fun _ h=>qt h
theorem yD:Tryz.prog.mayEnter=true:=iP.elim fun _ h=>qu h vM vM vM
theorem aW:Go.ownKnob Tryz.prog.godebug=l:=vM
theorem aX:Go.laidOutB c=true:=vM
theorem mixed:Tryz.prog.follows .mixedOrders=true:=vM
end Go.Proofs.YthlfaofofaphfaaGreatDoor

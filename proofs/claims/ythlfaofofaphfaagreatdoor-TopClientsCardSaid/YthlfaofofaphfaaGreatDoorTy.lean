/- Part Ty. -/
import Derived.Test.YthlfaofofaphfaaGreatDoorRows
import Derived.Test.YthlfaofofaphfaaGreatDoorV9
import Derived.Test.YthlfaofofaphfaaGreatDoorW3
import Derived.KernelRfl
open Go.Value renaming int→a,bool→k,slice→m,pointer→n
open Go.IntKind renaming i64→d,u32→i,u8→j,u64→o
open Go.Proofs.Tryz renaming prog→c
open Option renaming some→e,none→l
namespace Go.Proofs.YthlfaofofaphfaaGreatDoor
open Go.V
set_option maxRecDepth 100000
@[go_sem] theorem tn1:tn c 1=e 1:=uf
@[go_sem] theorem tb1:tb c 1=e 8:=uf
@[go_sem] theorem ta1:ta c 1=e false:=uf
@[go_sem] theorem tz1:tz c 1=e [.nilFunc]:=uf
@[go_sem] theorem gz:tb c 2=e 8:=uf
@[go_sem] theorem tn3:tn c 3=e 1:=uf
@[go_sem] theorem tb3:tb c 3=e 8:=uf
@[go_sem] theorem ta3:ta c 3=e false:=uf
@[go_sem] theorem tz3:tz c 3=e [a d 0]:=uf
@[go_sem] theorem Zwz:Ef c 3=e d:=uf
@[go_sem] theorem tn4:tn c 4=e 1:=uf
@[go_sem] theorem tb4:tb c 4=e 1:=uf
@[go_sem] theorem ta4:ta c 4=e false:=uf
@[go_sem] theorem Ti:tn c 5=e 1:=uf
@[go_sem] theorem T3:tb c 5=e 1:=uf
@[go_sem] theorem ta5:ta c 5=e false:=uf
@[go_sem] theorem T4:tz c 5=e [a j 0]:=uf
@[go_sem] theorem ZwA:Ef c 5=e j:=uf
@[go_sem] theorem ZBG:tn c 23=e 5:=uf
@[go_sem] theorem ZBH:ta c 23=e true:=uf
@[go_sem] theorem Zqv:tf c 23 0=e 0:=uf
@[go_sem] theorem Zqw:tf c 23 1=e 1:=uf
@[go_sem] theorem Zqx:tf c 23 2=e 2:=uf
@[go_sem] theorem Zqy:tf c 23 3=e 3:=uf
@[go_sem] theorem Zqz:tf c 23 4=e 4:=uf
@[go_sem] theorem ZqA:Xr c 24=l:=uf
@[go_sem] theorem ZwB:QR c 24=e 3:=uf
@[go_sem] theorem ZfU:tn c 25=e 5:=uf
@[go_sem] theorem ZjY:tb c 25=e 40:=uf
@[go_sem] theorem ZBI:ta c 25=e true:=uf
@[go_sem] theorem wm:tz c 25=e [a d 0,a d 0,a d 0,a d 0,a d 0]:=uf
@[go_sem] theorem ZqB:tf c 25 0=e 0:=uf
@[go_sem] theorem ZqC:tf c 25 1=e 1:=uf
@[go_sem] theorem ZqD:tf c 25 2=e 2:=uf
@[go_sem] theorem ZqE:tf c 25 3=e 3:=uf
@[go_sem] theorem ZqF:tf c 25 4=e 4:=uf
@[go_sem] theorem ZwC:Ng c 25=e [(0,1),(1,1),(2,1),(3,1),(4,1)]:=uf
@[go_sem] theorem ZwD:teg c 25=false:=uf
@[go_sem] theorem Znk:flat c 6 25=e [e d,e d,e d,e d,e d]:=uf
@[go_sem] theorem ZqG:Xr c 25=l:=uf
@[go_sem] theorem ZqH:Xr c 27=l:=uf
@[go_sem] theorem Zey:QR c 27=e 36:=uf
@[go_sem] theorem ZBJ:tn c 28=e 1:=uf
@[go_sem] theorem ZBK:ta c 28=e false:=uf
@[go_sem] theorem ZqI:Xr c 28=l:=uf
@[go_sem] theorem Xg:QR c 28=e 5:=uf
@[go_sem] theorem ZqJ:WU c 28=false:=uf
@[go_sem] theorem ZBL:tn c 29=e 1:=uf
@[go_sem] theorem ZBM:ta c 29=e false:=uf
@[go_sem] theorem ZBN:tn c 33=e 3:=uf
@[go_sem] theorem ZBO:ta c 33=e true:=uf
@[go_sem] theorem ZBP:tz c 33=e [a d 0,a d 0,a d 0]:=uf
@[go_sem] theorem ZqK:tf c 33 0=e 0:=uf
@[go_sem] theorem ZqL:tf c 33 1=e 1:=uf
@[go_sem] theorem ZqM:tf c 33 2=e 2:=uf
@[go_sem] theorem ZwE:Ng c 33=e [(0,1),(1,1),(2,1)]:=uf
@[go_sem] theorem ZqN:Xr c 33=l:=uf
@[go_sem] theorem ZjZ:tn c 36=e 5:=uf
@[go_sem] theorem Zj0:tb c 36=e 56:=uf
@[go_sem] theorem ZBQ:ta c 36=e true:=uf
@[go_sem] theorem Zj1:tz c 36=e [a d 0,a d 0,a d 0,a d 0,m l 0 0]:=uf
@[go_sem] theorem ZqO:tf c 36 0=e 0:=uf
@[go_sem] theorem ZqP:tf c 36 1=e 1:=uf
@[go_sem] theorem ZqQ:tf c 36 2=e 2:=uf
@[go_sem] theorem ZqR:tf c 36 3=e 3:=uf
@[go_sem] theorem ZqS:tf c 36 4=e 4:=uf
@[go_sem] theorem ZwF:Ng c 36=e [(0,1),(1,1),(2,1),(3,1),(4,1)]:=uf
@[go_sem] theorem ZqT:Xr c 36=l:=uf
@[go_sem] theorem ZqU:Xr c 37=e (5,4):=uf
@[go_sem] theorem ZwG:QR c 37=l:=uf
@[go_sem] theorem ZBR:tn c 38=e 1:=uf
@[go_sem] theorem ZBS:ta c 38=e false:=uf
@[go_sem] theorem ZqV:Xr c 38=l:=uf
@[go_sem] theorem Zj2:QR c 38=e 46:=uf
@[go_sem] theorem ZqW:Xr c 39=e (5,3):=uf
@[go_sem] theorem ZwH:QR c 39=l:=uf
@[go_sem] theorem ZBT:tn c 40=e 1:=uf
@[go_sem] theorem ZBU:ta c 40=e false:=uf
@[go_sem] theorem Zj3:QR c 40=e 152:=uf
@[go_sem] theorem ZBV:tn c 42=e 13:=uf
@[go_sem] theorem ZBW:ta c 42=e true:=uf
@[go_sem] theorem ZBX:tz c 42=e [a d 0,k false,k false,k false,k false,k false,m l 0 0,a d 0,a d 0,a d 0,a d 0,a d 0,m l 0 0]:=uf
@[go_sem] theorem ZqX:tf c 42 0=e 0:=uf
@[go_sem] theorem ZqY:tf c 42 1=e 1:=uf
@[go_sem] theorem ZqZ:tf c 42 2=e 6:=uf
@[go_sem] theorem Zq0:tf c 42 3=e 7:=uf
@[go_sem] theorem Zq1:tf c 42 4=e 12:=uf
@[go_sem] theorem ZwI:Ng c 42=e [(0,1),(1,5),(6,1),(7,5),(12,1)]:=uf
@[go_sem] theorem Zq2:Xr c 42=l:=uf
@[go_sem] theorem Zq3:tn c 46=e 1:=uf
@[go_sem] theorem Zq4:tb c 46=e 24:=uf
@[go_sem] theorem ZBY:ta c 46=e false:=uf
@[go_sem] theorem Zq5:tz c 46=e [m l 0 0]:=uf
@[go_sem] theorem Zq6:Xr c 46=l:=uf
@[go_sem] theorem AX:QR c 46=e 25:=uf
@[go_sem] theorem Zq7:WU c 46=false:=uf
@[go_sem] theorem Zj4:QR c 48=e 76:=uf
@[go_sem] theorem ZBZ:tn c 49=e 8:=uf
@[go_sem] theorem ZB0:ta c 49=e true:=uf
@[go_sem] theorem Zq8:Xr c 49=e (8,3):=uf
@[go_sem] theorem ZwJ:QR c 49=l:=uf
@[go_sem] theorem Zq9:WU c 49=false:=uf
@[go_sem] theorem ZB1:tn c 51=e 2:=uf
@[go_sem] theorem ZB2:ta c 51=e true:=uf
@[go_sem] theorem ZB3:tz c 51=e [a d 0,a d 0]:=uf
@[go_sem] theorem Zra:tf c 51 0=e 0:=uf
@[go_sem] theorem Zrb:tf c 51 1=e 1:=uf
@[go_sem] theorem ZwK:Ng c 51=e [(0,1),(1,1)]:=uf
@[go_sem] theorem ZwL:teg c 51=false:=uf
@[go_sem] theorem Znl:flat c 6 51=e [e d,e d]:=uf
@[go_sem] theorem Zrc:Xr c 51=l:=uf
@[go_sem] theorem Zrd:Xr c 52=e (8,51):=uf
@[go_sem] theorem ZwM:QR c 52=l:=uf
@[go_sem] theorem ZB4:tn c 53=e 8:=uf
@[go_sem] theorem ZB5:ta c 53=e true:=uf
@[go_sem] theorem ZB6:tz c 53=e [k false,k false,k false,k false,k false,k false,k false,k false]:=uf
@[go_sem] theorem ZwN:Ng c 53=l:=uf
@[go_sem] theorem Zre:Xr c 53=e (8,4):=uf
@[go_sem] theorem ZwO:QR c 53=l:=uf
@[go_sem] theorem Zrf:WU c 53=false:=uf
@[go_sem] theorem ZB7:tn c 55=e 40:=uf
@[go_sem] theorem ZB8:ta c 55=e true:=uf
@[go_sem] theorem ZB9:tz c 55=e [a d 0,a d 0,a d 0,a d 0,a d 0,a d 0,a d 0,a d 0,a d 0,a d 0,a d 0,a d 0,a d 0,a d 0,a d 0,a d 0,a d 0,a d 0,a d 0,a d 0,a d 0,a d 0,a d 0,a d 0,a d 0,a d 0,a d 0,a d 0,a d 0,a d 0,a d 0,a d 0,k false,k false,k false,k false,k false,k false,k false,k false]:=uf
@[go_sem] theorem Zrg:tf c 55 0=e 0:=uf
@[go_sem] theorem Zrh:tf c 55 1=e 8:=uf
@[go_sem] theorem Zri:tf c 55 2=e 16:=uf
@[go_sem] theorem Zrj:tf c 55 3=e 32:=uf
@[go_sem] theorem ZwP:Ng c 55=e [(0,8),(8,8),(16,16),(32,8)]:=uf
@[go_sem] theorem Zrk:Xr c 55=l:=uf
@[go_sem] theorem ZCa:tn c 66=e 11:=uf
@[go_sem] theorem ZCb:ta c 66=e true:=uf
@[go_sem] theorem ZCc:tz c 66=e [m l 0 0,a d 0,a d 0,k false,k false,k false,k false,k false,k false,k false,k false]:=uf
@[go_sem] theorem Zrl:tf c 66 0=e 0:=uf
@[go_sem] theorem Zrm:tf c 66 1=e 1:=uf
@[go_sem] theorem Zrn:tf c 66 2=e 2:=uf
@[go_sem] theorem Zro:tf c 66 3=e 3:=uf
@[go_sem] theorem ZwQ:Ng c 66=e [(0,1),(1,1),(2,1),(3,8)]:=uf
@[go_sem] theorem Zrp:Xr c 66=l:=uf
@[go_sem] theorem Zrq:tn c 76=e 8:=uf
@[go_sem] theorem Zrr:tb c 76=e 80:=uf
@[go_sem] theorem Zrs:tz c 76=e [a d 0,a d 0,a d 0,a d 0,a d 0,a d 0,a d 0,m l 0 0]:=uf
@[go_sem] theorem ZwR:Ng c 76=e [(0,5),(5,2),(7,1)]:=uf
@[go_sem] theorem Zrt:Xr c 76=l:=uf
@[go_sem] theorem ZCd:tn c 82=e 1:=uf
@[go_sem] theorem ZCe:ta c 82=e false:=uf
@[go_sem] theorem ZCf:tn c 83=e 5:=uf
@[go_sem] theorem ZCg:ta c 83=e true:=uf
@[go_sem] theorem ZCh:tz c 83=e [n l,n l,n l,n l,n l]:=uf
@[go_sem] theorem ZwS:Ng c 83=l:=uf
@[go_sem] theorem Zru:Xr c 83=e (5,82):=uf
@[go_sem] theorem Zrv:WU c 83=false:=uf
@[go_sem] theorem ZCi:tn c 91=e 1:=uf
@[go_sem] theorem ZCj:ta c 91=e false:=uf
@[go_sem] theorem ZCk:tn c 94=e 1:=uf
@[go_sem] theorem ZCl:ta c 94=e false:=uf
@[go_sem] theorem Zrw:Xr c 94=l:=uf
@[go_sem] theorem Zj5:QR c 94=e 98:=uf
@[go_sem] theorem ZCm:tn c 95=e 1:=uf
@[go_sem] theorem ZCn:ta c 95=e false:=uf
@[go_sem] theorem Zrx:Xr c 95=l:=uf
@[go_sem] theorem kQ:QR c 95=e 135:=uf
@[go_sem] theorem Zry:WU c 95=false:=uf
@[go_sem] theorem ZCo:tz c 97=e [m l 0 0,m l 0 0,a d 0,k false,k false,k false,k false,k false,m l 0 0,a d 0,a d 0,a d 0,a d 0,a d 0,m l 0 0]:=uf
@[go_sem] theorem Zrz:tf c 97 0=e 0:=uf
@[go_sem] theorem ZrA:tf c 97 1=e 1:=uf
@[go_sem] theorem ZrB:tf c 97 2=e 2:=uf
@[go_sem] theorem ZwT:Ng c 97=e [(0,1),(1,1),(2,13)]:=uf
@[go_sem] theorem ZrC:Xr c 97=l:=uf
@[go_sem] theorem ZrD:tn c 98=e 1:=uf
@[go_sem] theorem ZrE:tb c 98=e 8:=uf
@[go_sem] theorem ZCp:ta c 98=e false:=uf
@[go_sem] theorem ZrF:tz c 98=e [n l]:=uf
@[go_sem] theorem ZwU:tn c 100=e 2:=uf
@[go_sem] theorem ZwV:ta c 100=e true:=uf
@[go_sem] theorem ZwW:tz c 100=e [m l 0 0,a d 0]:=uf
@[go_sem] theorem Znm:tf c 100 0=e 0:=uf
@[go_sem] theorem Znn:tf c 100 1=e 1:=uf
@[go_sem] theorem ZrG:Ng c 100=e [(0,1),(1,1)]:=uf
@[go_sem] theorem Zno:Xr c 100=l:=uf
@[go_sem] theorem ZwX:tn c 102=e 2:=uf
@[go_sem] theorem ZwY:ta c 102=e true:=uf
@[go_sem] theorem ZwZ:tz c 102=e [a d 0,a d 0]:=uf
@[go_sem] theorem Znp:tf c 102 0=e 0:=uf
@[go_sem] theorem Znq:tf c 102 1=e 1:=uf
@[go_sem] theorem ZrH:Ng c 102=e [(0,1),(1,1)]:=uf
@[go_sem] theorem ZrI:teg c 102=false:=uf
@[go_sem] theorem Zj6:flat c 6 102=e [e d,e d]:=uf
@[go_sem] theorem Znr:Xr c 102=l:=uf
@[go_sem] theorem Zj7:tn c 103=e 1:=uf
@[go_sem] theorem Zj8:tb c 103=e 24:=uf
@[go_sem] theorem Zw0:ta c 103=e false:=uf
@[go_sem] theorem Zj9:tz c 103=e [m l 0 0]:=uf
@[go_sem] theorem Zns:Xr c 103=l:=uf
@[go_sem] theorem PK:QR c 103=e 133:=uf
@[go_sem] theorem Znt:WU c 103=false:=uf
@[go_sem] theorem Zw1:tn c 105=e 3:=uf
@[go_sem] theorem Zw2:ta c 105=e true:=uf
@[go_sem] theorem Zw3:tz c 105=e [a d 0,a d 0,m l 0 0]:=uf
@[go_sem] theorem Znu:tf c 105 0=e 0:=uf
@[go_sem] theorem Znv:tf c 105 1=e 2:=uf
@[go_sem] theorem ZrJ:Ng c 105=e [(0,2),(2,1)]:=uf
@[go_sem] theorem Znw:Xr c 105=l:=uf
@[go_sem] theorem Zw4:tn c 106=e 1:=uf
@[go_sem] theorem Zw5:ta c 106=e false:=uf
@[go_sem] theorem Zw6:tn c 107=e 1:=uf
@[go_sem] theorem Zw7:ta c 107=e false:=uf
@[go_sem] theorem Zw8:tz c 109=e [a d 0,k false,m l 0 0,a d 0,a d 0,a d 0,m l 0 0,a d 0,a d 0,n l,.map l,m l 0 0,a d 0,a d 0,a d 0,a d 0,a d 0,a d 0,a d 0,a d 0,a d 0,a d 0,a d 0,a d 0,a d 0,a d 0,a d 0,a d 0,a d 0,a d 0,a d 0,a d 0,a d 0,a d 0,a d 0,a d 0,a d 0,a d 0,a d 0,a d 0,a d 0,a d 0,a d 0,a d 0,k false,k false,k false,k false,k false,k false,k false,k false,m l 0 0,m l 0 0,m l 0 0,.nilFunc,a d 0]:=uf
@[go_sem] theorem Znx:tf c 109 0=e 0:=uf
@[go_sem] theorem Zny:tf c 109 1=e 1:=uf
@[go_sem] theorem Znz:tf c 109 2=e 2:=uf
@[go_sem] theorem ZnA:tf c 109 3=e 4:=uf
@[go_sem] theorem ZnB:tf c 109 4=e 7:=uf
@[go_sem] theorem ZnC:tf c 109 5=e 9:=uf
@[go_sem] theorem ZnD:tf c 109 6=e 10:=uf
@[go_sem] theorem ZnE:tf c 109 7=e 11:=uf
@[go_sem] theorem ZnF:tf c 109 8=e 12:=uf
@[go_sem] theorem ZnG:tf c 109 9=e 52:=uf
@[go_sem] theorem Zka:tf c 109 10=e 53:=uf
@[go_sem] theorem Zkb:tf c 109 11=e 54:=uf
@[go_sem] theorem Zkc:tf c 109 12=e 55:=uf
@[go_sem] theorem Zkd:tf c 109 13=e 56:=uf
@[go_sem] theorem ZrK:Ng c 109=e [(0,1),(1,1),(2,2),(4,3),(7,2),(9,1),(10,1),(11,1),(12,40),(52,1),(53,1),(54,1),(55,1),(56,1)]:=uf
@[go_sem] theorem ZnH:Xr c 109=l:=uf
@[go_sem] theorem Zw9:tz c 114=e [a d 0,a d 0]:=uf
@[go_sem] theorem ZrL:Ng c 114=l:=uf
@[go_sem] theorem ZnI:Xr c 114=e (2,3):=uf
@[go_sem] theorem ZnJ:WU c 114=false:=uf
@[go_sem] theorem ZnK:Ef c 115=e o:=uf
@[go_sem] theorem ZnL:Xr c 122=l:=uf
@[go_sem] theorem ZrM:QR c 122=e 127:=uf
@[go_sem] theorem Zxa:tn c 127=e 2:=uf
@[go_sem] theorem Zxb:ta c 127=e true:=uf
@[go_sem] theorem Zxc:tz c 127=e [n l,a d 0]:=uf
@[go_sem] theorem ZnM:tf c 127 0=e 0:=uf
@[go_sem] theorem ZnN:tf c 127 1=e 1:=uf
@[go_sem] theorem ZrN:Ng c 127=e [(0,1),(1,1)]:=uf
@[go_sem] theorem ZnO:Xr c 127=l:=uf
@[go_sem] theorem MT:tn c 133=e 8:=uf
@[go_sem] theorem kR:tb c 133=e 64:=uf
@[go_sem] theorem Zxd:ta c 133=e true:=uf
@[go_sem] theorem kS:tz c 133=e [a d 0,a d 0,a d 0,a d 0,a d 0,a d 0,a d 0,a d 0]:=uf
@[go_sem] theorem ZnP:tf c 133 0=e 0:=uf
@[go_sem] theorem ZnQ:tf c 133 1=e 1:=uf
@[go_sem] theorem ZnR:tf c 133 2=e 3:=uf
@[go_sem] theorem ZrO:Ng c 133=e [(0,1),(1,2),(3,5)]:=uf
@[go_sem] theorem ZrP:teg c 133=false:=uf
@[go_sem] theorem Zke:flat c 6 133=e [e d,e d,e d,e d,e d,e d,e d,e d]:=uf
@[go_sem] theorem ZnS:Xr c 133=l:=uf
@[go_sem] theorem wq:tn c 135=e 14:=uf
@[go_sem] theorem Zez:tb c 135=e 128:=uf
@[go_sem] theorem Zxe:ta c 135=e true:=uf
@[go_sem] theorem kT:tz c 135=e [a d 0,a d 0,a d 0,a d 0,a d 0,a d 0,a d 0,a d 0,a d 0,a d 0,a d 0,a d 0,a d 0,m l 0 0]:=uf
@[go_sem] theorem ZnT:tf c 135 0=e 0:=uf
@[go_sem] theorem ZnU:tf c 135 1=e 1:=uf
@[go_sem] theorem ZnV:tf c 135 2=e 2:=uf
@[go_sem] theorem ZnW:tf c 135 3=e 3:=uf
@[go_sem] theorem ZnX:tf c 135 4=e 5:=uf
@[go_sem] theorem ZnY:tf c 135 5=e 13:=uf
@[go_sem] theorem ZrQ:Ng c 135=e [(0,1),(1,1),(2,1),(3,2),(5,8),(13,1)]:=uf
@[go_sem] theorem ZnZ:Xr c 135=l:=uf
@[go_sem] theorem Zxf:tn c 144=e 64:=uf
@[go_sem] theorem Zxg:ta c 144=e true:=uf
@[go_sem] theorem Zxh:tz c 144=e [a j 0,a j 0,a j 0,a j 0,a j 0,a j 0,a j 0,a j 0,a j 0,a j 0,a j 0,a j 0,a j 0,a j 0,a j 0,a j 0,a j 0,a j 0,a j 0,a j 0,a j 0,a j 0,a j 0,a j 0,a j 0,a j 0,a j 0,a j 0,a j 0,a j 0,a j 0,a j 0,a j 0,a j 0,a j 0,a j 0,a j 0,a j 0,a j 0,a j 0,a j 0,a j 0,a j 0,a j 0,a j 0,a j 0,a j 0,a j 0,a j 0,a j 0,a j 0,a j 0,a j 0,a j 0,a j 0,a j 0,a j 0,a j 0,a j 0,a j 0,a j 0,a j 0,a j 0,a j 0]:=uf
@[go_sem] theorem Zn0:Xr c 144=e (64,5):=uf
@[go_sem] theorem ZrR:QR c 144=l:=uf
@[go_sem] theorem Zn1:WU c 144=false:=uf
@[go_sem] theorem Zxi:tn c 146=e 1:=uf
@[go_sem] theorem Zxj:ta c 146=e false:=uf
@[go_sem] theorem Zn2:Ef c 146=e i:=uf
@[go_sem] theorem Zkf:tn c 152=e 5:=uf
@[go_sem] theorem Zkg:tb c 152=e 40:=uf
@[go_sem] theorem Zkh:tz c 152=e [a d 0,a d 0,a d 0,a d 0,a d 0]:=uf
@[go_sem] theorem ZrS:Ng c 152=e [(0,1),(1,1),(2,1),(3,2)]:=uf
@[go_sem] theorem Zn3:Xr c 152=l:=uf
@[go_sem] theorem Zxk:tn c 154=e 1:=uf
@[go_sem] theorem Zxl:ta c 154=e false:=uf
@[go_sem] theorem Zxm:tn c 155=e 1:=uf
@[go_sem] theorem Zxn:ta c 155=e false:=uf
@[go_sem] theorem Zxo:tz c 157=e [a d 0,a d 0,.map l,k false,.map l,.map l]:=uf
@[go_sem] theorem Zn4:tf c 157 0=e 0:=uf
@[go_sem] theorem Zn5:tf c 157 1=e 2:=uf
@[go_sem] theorem Zn6:tf c 157 2=e 3:=uf
@[go_sem] theorem Zn7:tf c 157 3=e 4:=uf
@[go_sem] theorem Zn8:tf c 157 4=e 5:=uf
@[go_sem] theorem ZrT:Ng c 157=e [(0,2),(2,1),(3,1),(4,1),(5,1)]:=uf
@[go_sem] theorem Zn9:Xr c 157=l:=uf
@[go_sem] theorem Zxp:tn c 166=e 8:=uf
@[go_sem] theorem Zxq:ta c 166=e true:=uf
@[go_sem] theorem Zxr:tz c 166=e [a i 0,a i 0,a i 0,a i 0,a i 0,a i 0,a i 0,a i 0]:=uf
@[go_sem] theorem ZrU:Ng c 166=l:=uf
@[go_sem] theorem Zoa:Xr c 166=e (8,146):=uf
@[go_sem] theorem ZrV:QR c 166=l:=uf
@[go_sem] theorem Zob:WU c 166=false:=uf
@[go_sem] theorem Zxs:tn c 169=e 16:=uf
@[go_sem] theorem Zxt:ta c 169=e true:=uf
@[go_sem] theorem Zxu:tz c 169=e [a i 0,a i 0,a i 0,a i 0,a i 0,a i 0,a i 0,a i 0,a i 0,a i 0,a i 0,a i 0,a i 0,a i 0,a i 0,a i 0]:=uf
@[go_sem] theorem ZrW:Ng c 169=l:=uf
@[go_sem] theorem Zoc:Xr c 169=e (16,146):=uf
@[go_sem] theorem ZrX:QR c 169=l:=uf
@[go_sem] theorem Zxv:tz c 187=e [a i 0,a i 0,a i 0,a i 0,a i 0,a i 0,a i 0,a i 0,a i 0,a i 0,a i 0,a i 0,a i 0,a i 0,a i 0,a i 0,a i 0,a i 0,a i 0,a i 0,a i 0,a i 0,a i 0,a i 0,a i 0,a i 0,a i 0,a i 0,a i 0,a i 0,a i 0,a i 0,a i 0,a i 0,a i 0,a i 0,a i 0,a i 0,a i 0,a i 0,a i 0,a i 0,a i 0,a i 0,a i 0,a i 0,a i 0,a i 0,a i 0,a i 0,a i 0,a i 0,a i 0,a i 0,a i 0,a i 0,a i 0,a i 0,a i 0,a i 0,a i 0,a i 0,a i 0,a i 0]:=uf
@[go_sem] theorem Zod:Xr c 187=e (64,146):=uf
@[go_sem] theorem ZrY:QR c 187=l:=uf
@[go_sem] theorem Zxw:tz c 190=e [a d 0,a d 0,a d 0,a d 0]:=uf
@[go_sem] theorem ZrZ:Ng c 190=l:=uf
@[go_sem] theorem Zoe:Xr c 190=e (4,3):=uf
@[go_sem] theorem Zr0:QR c 190=l:=uf
@[go_sem] theorem Zof:WU c 190=false:=uf
@[go_sem] theorem Zxx:tz c 191=e [a d 0,a d 0,a d 0]:=uf
@[go_sem] theorem Zr1:Ng c 191=l:=uf
@[go_sem] theorem Zog:Xr c 191=e (3,3):=uf
@[go_sem] theorem Zoh:WU c 191=false:=uf
@[go_sem] theorem Zxy:tn c 192=e 1:=uf
@[go_sem] theorem Zxz:ta c 192=e false:=uf
@[go_sem] theorem Zoi:Ef c 192=e o:=uf
@[go_sem] theorem ZxA:tn c 194=e 5:=uf
@[go_sem] theorem ZxB:ta c 194=e true:=uf
@[go_sem] theorem ZxC:tz c 194=e [a o 0,a o 0,a o 0,a o 0,a o 0]:=uf
@[go_sem] theorem Zr2:Ng c 194=l:=uf
@[go_sem] theorem Zoj:Xr c 194=e (5,192):=uf
@[go_sem] theorem Zr3:QR c 194=l:=uf
@[go_sem] theorem Zok:WU c 194=false:=uf
@[go_sem] theorem ZxD:tz c 196=e [a j 0,a j 0,a j 0,a j 0,a j 0,a j 0,a j 0,a j 0,a j 0,a j 0,a j 0,a j 0,a j 0,a j 0,a j 0,a j 0,a j 0]:=uf
@[go_sem] theorem Zol:Xr c 196=e (17,5):=uf
@[go_sem] theorem Zr4:QR c 196=l:=uf
@[go_sem] theorem Zom:WU c 196=false:=uf
@[go_sem] theorem ZxE:tn c 203=e 0:=uf
@[go_sem] theorem ZxF:tz c 203=e []:=uf
@[go_sem] theorem Zr5:Ng c 203=e []:=uf
@[go_sem] theorem Zon:Xr c 203=l:=uf
@[go_sem] theorem Zoo:Xr c 229=l:=uf
@[go_sem] theorem ZfV:QR c 229=e 103:=uf
@[go_sem] theorem go5:goes c 5=true:=uf
@[go_sem] theorem go6:goes c 6=true:=uf
@[go_sem] theorem go7:goes c 7=true:=uf
@[go_sem] theorem go9:goes c 9=true:=uf
@[go_sem] theorem ZCq:goes c 10=true:=uf
@[go_sem] theorem ZCr:goes c 11=true:=uf
@[go_sem] theorem ZCs:goes c 12=true:=uf
@[go_sem] theorem ZCt:goes c 13=true:=uf
@[go_sem] theorem ZCu:goes c 14=true:=uf
@[go_sem] theorem ZCv:goes c 15=true:=uf
@[go_sem] theorem ZCw:goes c 16=true:=uf
@[go_sem] theorem ZCx:goes c 17=true:=uf
@[go_sem] theorem ZCy:goes c 18=true:=uf
@[go_sem] theorem ZCz:goes c 19=true:=uf
@[go_sem] theorem ZCA:goes c 20=true:=uf
@[go_sem] theorem ZCB:goes c 21=true:=uf
@[go_sem] theorem ZCC:goes c 22=true:=uf
@[go_sem] theorem ZCD:goes c 23=true:=uf
@[go_sem] theorem ZCE:goes c 24=true:=uf
@[go_sem] theorem ZCF:goes c 25=true:=uf
@[go_sem] theorem ZCG:goes c 26=true:=uf
@[go_sem] theorem ZCH:goes c 27=true:=uf
@[go_sem] theorem ZCI:goes c 28=true:=uf
@[go_sem] theorem ZCJ:goes c 29=true:=uf
@[go_sem] theorem ZCK:goes c 30=true:=uf
@[go_sem] theorem ZCL:goes c 31=true:=uf
@[go_sem] theorem ZCM:goes c 32=true:=uf
@[go_sem] theorem ZCN:goes c 33=true:=uf
@[go_sem] theorem ZCO:goes c 34=true:=uf
@[go_sem] theorem ZCP:goes c 35=true:=uf
@[go_sem] theorem ZCQ:goes c 36=true:=uf
@[go_sem] theorem ZCR:goes c 37=true:=uf
@[go_sem] theorem ZCS:goes c 38=true:=uf
@[go_sem] theorem ZCT:goes c 39=true:=uf
@[go_sem] theorem ZCU:goes c 40=true:=uf
@[go_sem] theorem ZCV:goes c 41=true:=uf
@[go_sem] theorem ZCW:goes c 42=true:=uf
@[go_sem] theorem ZCX:goes c 43=true:=uf
@[go_sem] theorem ZCY:goes c 44=true:=uf
@[go_sem] theorem ZCZ:goes c 45=true:=uf
@[go_sem] theorem ZC0:goes c 46=true:=uf
@[go_sem] theorem ZC1:goes c 47=true:=uf
@[go_sem] theorem ZC2:goes c 48=true:=uf
@[go_sem] theorem ZC3:goes c 49=true:=uf
@[go_sem] theorem ZC4:goes c 50=true:=uf
@[go_sem] theorem ZC5:goes c 51=true:=uf
@[go_sem] theorem ZC6:goes c 52=true:=uf
@[go_sem] theorem ZC7:goes c 53=true:=uf
@[go_sem] theorem ZC8:goes c 54=true:=uf
@[go_sem] theorem ZC9:goes c 55=true:=uf
@[go_sem] theorem ZDa:goes c 56=true:=uf
@[go_sem] theorem ZDb:goes c 57=true:=uf
@[go_sem] theorem ZDc:goes c 58=true:=uf
@[go_sem] theorem ZDd:goes c 59=true:=uf
@[go_sem] theorem ZDe:goes c 60=true:=uf
@[go_sem] theorem ZDf:goes c 61=true:=uf
@[go_sem] theorem ZDg:goes c 62=true:=uf
@[go_sem] theorem ZDh:goes c 63=true:=uf
@[go_sem] theorem ZDi:goes c 64=true:=uf
@[go_sem] theorem ZDj:goes c 65=true:=uf
@[go_sem] theorem ZDk:goes c 66=true:=uf
@[go_sem] theorem ZDl:goes c 67=true:=uf
@[go_sem] theorem ZDm:goes c 68=true:=uf
@[go_sem] theorem ZDn:goes c 69=true:=uf
@[go_sem] theorem ZDo:goes c 70=true:=uf
@[go_sem] theorem ZDp:goes c 71=true:=uf
@[go_sem] theorem ZDq:goes c 72=true:=uf
@[go_sem] theorem ZDr:goes c 73=true:=uf
@[go_sem] theorem ZDs:goes c 74=true:=uf
@[go_sem] theorem ZDt:goes c 75=true:=uf
@[go_sem] theorem ZDu:goes c 76=true:=uf
@[go_sem] theorem ZDv:goes c 77=true:=uf
@[go_sem] theorem ZDw:goes c 78=true:=uf
@[go_sem] theorem ZDx:goes c 79=true:=uf
@[go_sem] theorem ZDy:goes c 80=true:=uf
@[go_sem] theorem ZDz:goes c 81=true:=uf
@[go_sem] theorem ZDA:goes c 82=true:=uf
@[go_sem] theorem ZDB:goes c 83=true:=uf
@[go_sem] theorem ZDC:goes c 84=true:=uf
@[go_sem] theorem ZDD:goes c 85=true:=uf
@[go_sem] theorem ZDE:goes c 86=true:=uf
@[go_sem] theorem ZDF:goes c 87=true:=uf
@[go_sem] theorem ZDG:goes c 88=true:=uf
@[go_sem] theorem ZDH:goes c 89=true:=uf
@[go_sem] theorem ZDI:goes c 90=true:=uf
@[go_sem] theorem ZDJ:goes c 91=true:=uf
@[go_sem] theorem ZDK:goes c 92=true:=uf
@[go_sem] theorem ZDL:goes c 93=true:=uf
@[go_sem] theorem ZDM:goes c 94=true:=uf
@[go_sem] theorem ZDN:goes c 95=true:=uf
@[go_sem] theorem ZDO:goes c 96=true:=uf
@[go_sem] theorem ZDP:goes c 97=true:=uf
@[go_sem] theorem ZDQ:goes c 98=true:=uf
@[go_sem] theorem ZDR:goes c 99=true:=uf
@[go_sem] theorem ZxG:goes c 100=true:=uf
@[go_sem] theorem ZxH:goes c 101=true:=uf
@[go_sem] theorem ZxI:goes c 102=true:=uf
@[go_sem] theorem ZxJ:goes c 103=true:=uf
@[go_sem] theorem ZxK:goes c 104=true:=uf
@[go_sem] theorem ZxL:goes c 105=true:=uf
@[go_sem] theorem ZxM:goes c 107=true:=uf
@[go_sem] theorem ZxN:goes c 109=true:=uf
@[go_sem] theorem ZxO:goes c 110=true:=uf
@[go_sem] theorem ZxP:goes c 112=true:=uf
@[go_sem] theorem ZxQ:goes c 113=true:=uf
@[go_sem] theorem ZxR:goes c 116=true:=uf
@[go_sem] theorem ZxS:goes c 117=true:=uf
@[go_sem] theorem ZxT:goes c 118=true:=uf
@[go_sem] theorem ZxU:goes c 119=true:=uf
@[go_sem] theorem ZxV:goes c 120=true:=uf
@[go_sem] theorem ZxW:goes c 121=true:=uf
@[go_sem] theorem ZxX:goes c 122=true:=uf
@[go_sem] theorem ZxY:goes c 123=true:=uf
@[go_sem] theorem ZxZ:goes c 124=true:=uf
@[go_sem] theorem Zx0:goes c 125=true:=uf
@[go_sem] theorem Zx1:goes c 126=true:=uf
@[go_sem] theorem Zx2:goes c 127=true:=uf
@[go_sem] theorem Zx3:goes c 128=true:=uf
@[go_sem] theorem Zx4:goes c 129=true:=uf
@[go_sem] theorem Zx5:goes c 131=true:=uf
@[go_sem] theorem Zx6:goes c 132=true:=uf
@[go_sem] theorem Zx7:goes c 133=true:=uf
@[go_sem] theorem Zx8:goes c 134=true:=uf
@[go_sem] theorem Zx9:goes c 135=true:=uf
@[go_sem] theorem Zya:goes c 136=true:=uf
@[go_sem] theorem Zyb:goes c 137=true:=uf
def Df:List Nat:=[104,97,114,110,101,115,115,32,54,102,101,99,101,101,97,101,53,57,98,53,53,53,98,57,51,57,100,101,99,97,51,57,97,55,100,100,51,101,50,49,57,52,51,51,99,53,55,99,53,102,50,48,52,49,54,102,97,53,100,98,51,53,99,49,102,52,99,49,54,52,102,53,32,99,117,116,32,97,116,32,99,111,110,99,108,97,118,101,47,99,111,110,99,108,97,118,101,116,111,112,46,84,111,112,79,110,99,101,32,99,111,110,99,108,97,118,101,47,99,111,110,99,108,97,118,101,116,111,112,46,84,111,112,67,108,105,101,110,116,115]
theorem gC:∃rest,Go.behindMainWord (Go.wordsSigns Tryz.prog.initOrder.toList) = "cut".toList :: rest:=
 oF (L:=Df.map Char.ofNat) uf uf
theorem Zki:Tryz.prog.make=e .cut:=gC.elim fun _ h=>vF h
theorem ZfW:Tryz.prog.liftsFinal=false:=gC.elim fun _ h=>oC h
theorem ZfX:Tryz.prog.mayEnter=true:=gC.elim fun _ h=>oE h uf uf uf
theorem wu:Go.ownKnob Tryz.prog.godebug=l:=uf
theorem ww:Go.laidOutB c=true:=uf
theorem mixed:Tryz.prog.follows .mixedOrders=true:=uf
end Go.Proofs.YthlfaofofaphfaaGreatDoor

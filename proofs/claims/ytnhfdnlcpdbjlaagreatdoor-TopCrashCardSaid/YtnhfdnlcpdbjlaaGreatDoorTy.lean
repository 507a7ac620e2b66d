/- Part Ty. -/
import Derived.Test.YtnhfdnlcpdbjlaaGreatDoorRows
import Derived.Test.YtnhfdnlcpdbjlaaGreatDoorV9
import Derived.Test.YtnhfdnlcpdbjlaaGreatDoorW3
import Derived.KernelRfl
open Go.Value renaming int→a,bool→k,slice→m,pointer→n
open Go.IntKind renaming i64→d,u32→i,u8→j,u64→o
open Go.Proofs.Tryz renaming prog→c
open Option renaming some→e,none→l
namespace Go.Proofs.YtnhfdnlcpdbjlaaGreatDoor
open Go.V
set_option maxRecDepth 100000
@[go_sem] theorem tn1:tn c 1=e 1/\ta c 1=e false/\tz c 1=e [.nilFunc]/\tn c 3=e 1/\ta c 3=e false/\tz c 3=e [a d 0]/\FX c 3=e d/\tn c 4=e 1/\ta c 4=e false/\ta c 5=e false/\FX c 5=e j/\Xv c 22=l/\QE c 22=e 44/\Xv c 23=l/\Xv c 25=e (5,4)/\QE c 25=l/\tn c 26=e 1/\ta c 26=e false/\Xv c 26=l/\Xv c 27=e (5,3)/\QE c 27=l/\tn c 28=e 1/\ta c 28=e false/\tn c 30=e 13/\ta c 30=e true/\tz c 30=e [a d 0,k false,k false,k false,k false,k false,m l 0 0,a d 0,a d 0,a d 0,a d 0,a d 0,m l 0 0]/\tf c 30 0=e 0/\tf c 30 1=e 1/\tf c 30 2=e 6/\tf c 30 3=e 7:=⟨sV,sV,sV,sV,sV,sV,sV,sV,sV,sV,sV,sV,sV,sV,sV,sV,sV,sV,sV,sV,sV,sV,sV,sV,sV,sV,sV,sV,sV,sV⟩
@[go_sem] theorem Zqi:tf c 30 4=e 12/\NF c 30=e [(0,1),(1,5),(6,1),(7,5),(12,1)]/\Xv c 30=l/\tn c 34=e 1/\ta c 34=e false/\Xv c 34=l/\W0 c 34=false/\ta c 36=e true/\tf c 36 0=e 0/\tf c 36 1=e 1/\tf c 36 2=e 2/\tf c 36 3=e 3/\tf c 36 4=e 4/\NF c 36=e [(0,1),(1,1),(2,1),(3,1),(4,1)]/\Xv c 36=l/\ta c 38=e false/\Xv c 38=l/\W0 c 38=false/\tn c 44=e 5/\ta c 44=e true/\tf c 44 0=e 0/\tf c 44 1=e 1/\tf c 44 2=e 2/\tf c 44 3=e 3/\tf c 44 4=e 4/\ta c 49=e true/\tf c 49 0=e 0/\tf c 49 1=e 1/\tf c 49 2=e 2/\tf c 49 3=e 3:=⟨sV,sV,sV,sV,sV,sV,sV,sV,sV,sV,sV,sV,sV,sV,sV,sV,sV,sV,sV,sV,sV,sV,sV,sV,sV,sV,sV,sV,sV,sV⟩
@[go_sem] theorem ZqG:tf c 49 4=e 4/\NF c 49=e [(0,1),(1,1),(2,1),(3,1),(4,1)]/\teg c 49=false/\flat c 6 49=e [e d,e d,e d,e d,e d]/\Xv c 49=l/\tn c 52=e 1/\ta c 52=e false/\tn c 55=e 1/\ta c 55=e false/\Xv c 55=l/\tn c 56=e 1/\ta c 56=e false/\Xv c 56=l/\W0 c 56=false/\tz c 58=e [m l 0 0,m l 0 0,a d 0,k false,k false,k false,k false,k false,m l 0 0,a d 0,a d 0,a d 0,a d 0,a d 0,m l 0 0]/\tf c 58 0=e 0/\tf c 58 1=e 1/\tf c 58 2=e 2/\NF c 58=e [(0,1),(1,1),(2,13)]/\Xv c 58=l/\ta c 59=e false/\tn c 61=e 2/\ta c 61=e true/\tz c 61=e [m l 0 0,a d 0]/\tf c 61 0=e 0/\tf c 61 1=e 1/\NF c 61=e [(0,1),(1,1)]/\Xv c 61=l/\tn c 63=e 2/\ta c 63=e true:=⟨sV,sV,sV,sV,sV,sV,sV,sV,sV,sV,sV,sV,sV,sV,sV,sV,sV,sV,sV,sV,sV,sV,sV,sV,sV,sV,sV,sV,sV,sV⟩
@[go_sem] theorem ZBY:tz c 63=e [a d 0,a d 0]/\tf c 63 0=e 0/\tf c 63 1=e 1/\NF c 63=e [(0,1),(1,1)]/\teg c 63=false/\flat c 6 63=e [e d,e d]/\Xv c 63=l/\ta c 64=e false/\Xv c 64=l/\W0 c 64=false/\tn c 66=e 3/\ta c 66=e true/\tz c 66=e [a d 0,a d 0,m l 0 0]/\tf c 66 0=e 0/\tf c 66 1=e 2/\NF c 66=e [(0,2),(2,1)]/\Xv c 66=l/\tn c 67=e 1/\ta c 67=e false/\tn c 68=e 1/\ta c 68=e false/\tn c 69=e 8/\ta c 69=e true/\Xv c 69=e (8,3)/\QE c 69=l/\W0 c 69=false/\tn c 71=e 2/\ta c 71=e true/\tz c 71=e [a d 0,a d 0]/\NF c 71=e [(0,1),(1,1)]:=⟨sV,sV,sV,sV,sV,sV,sV,sV,sV,sV,sV,sV,sV,sV,sV,sV,sV,sV,sV,sV,sV,sV,sV,sV,sV,sV,sV,sV,sV,sV⟩
@[go_sem] theorem ZwW:teg c 71=false/\flat c 6 71=e [e d,e d]/\Xv c 71=l/\Xv c 72=e (8,71)/\QE c 72=l/\tn c 73=e 8/\ta c 73=e true/\tz c 73=e [k false,k false,k false,k false,k false,k false,k false,k false]/\NF c 73=l/\Xv c 73=e (8,4)/\QE c 73=l/\W0 c 73=false/\tn c 75=e 40/\ta c 75=e true/\tz c 75=e [a d 0,a d 0,a d 0,a d 0,a d 0,a d 0,a d 0,a d 0,a d 0,a d 0,a d 0,a d 0,a d 0,a d 0,a d 0,a d 0,a d 0,a d 0,a d 0,a d 0,a d 0,a d 0,a d 0,a d 0,a d 0,a d 0,a d 0,a d 0,a d 0,a d 0,a d 0,a d 0,k false,k false,k false,k false,k false,k false,k false,k false]/\tf c 75 0=e 0/\tf c 75 1=e 8/\tf c 75 2=e 16/\tf c 75 3=e 32/\NF c 75=e [(0,8),(8,8),(16,16),(32,8)]/\Xv c 75=l/\tz c 77=e [a d 0,k false,m l 0 0,a d 0,a d 0,a d 0,m l 0 0,a d 0,a d 0,n l,.map l,m l 0 0,a d 0,a d 0,a d 0,a d 0,a d 0,a d 0,a d 0,a d 0,a d 0,a d 0,a d 0,a d 0,a d 0,a d 0,a d 0,a d 0,a d 0,a d 0,a d 0,a d 0,a d 0,a d 0,a d 0,a d 0,a d 0,a d 0,a d 0,a d 0,a d 0,a d 0,a d 0,a d 0,k false,k false,k false,k false,k false,k false,k false,k false,m l 0 0,m l 0 0,m l 0 0,.nilFunc,a d 0]/\tf c 77 0=e 0/\tf c 77 1=e 1/\tf c 77 2=e 2/\tf c 77 3=e 4/\tf c 77 4=e 7/\tf c 77 5=e 9/\tf c 77 6=e 10/\tf c 77 7=e 11:=⟨sV,sV,sV,sV,sV,sV,sV,sV,sV,sV,sV,sV,sV,sV,sV,sV,sV,sV,sV,sV,sV,sV,sV,sV,sV,sV,sV,sV,sV,sV⟩
@[go_sem] theorem Zrp:tf c 77 8=e 12/\tf c 77 9=e 52/\tf c 77 10=e 53/\tf c 77 11=e 54/\tf c 77 12=e 55/\tf c 77 13=e 56/\NF c 77=e [(0,1),(1,1),(2,2),(4,3),(7,2),(9,1),(10,1),(11,1),(12,40),(52,1),(53,1),(54,1),(55,1),(56,1)]/\Xv c 77=l/\tz c 80=e [a d 0,a d 0,a d 0,a d 0,a d 0]/\tf c 80 0=e 0/\tf c 80 1=e 1/\tf c 80 2=e 2/\tf c 80 3=e 3/\tf c 80 4=e 4/\NF c 80=e [(0,1),(1,1),(2,1),(3,1),(4,1)]/\Xv c 80=l/\tn c 82=e 3/\ta c 82=e true/\tz c 82=e [a d 0,a d 0,a d 0]/\tf c 82 0=e 0/\tf c 82 1=e 1/\tf c 82 2=e 2/\NF c 82=e [(0,1),(1,1),(2,1)]/\Xv c 82=l/\Xv c 85=l/\QE c 85=e 91/\tn c 89=e 1/\ta c 89=e false/\tn c 91=e 2/\ta c 91=e true:=⟨sV,sV,sV,sV,sV,sV,sV,sV,sV,sV,sV,sV,sV,sV,sV,sV,sV,sV,sV,sV,sV,sV,sV,sV,sV,sV,sV,sV,sV,sV⟩
@[go_sem] theorem ZCr:tz c 91=e [n l,a d 0]/\tf c 91 0=e 0/\tf c 91 1=e 1/\NF c 91=e [(0,1),(1,1)]/\Xv c 91=l/\ta c 97=e true/\tf c 97 0=e 0/\tf c 97 1=e 1/\tf c 97 2=e 3/\NF c 97=e [(0,1),(1,2),(3,5)]/\teg c 97=false/\flat c 6 97=e [e d,e d,e d,e d,e d,e d,e d,e d]/\Xv c 97=l/\ta c 99=e true/\tf c 99 0=e 0/\tf c 99 1=e 1/\tf c 99 2=e 2/\tf c 99 3=e 3/\tf c 99 4=e 5/\tf c 99 5=e 13/\NF c 99=e [(0,1),(1,1),(2,1),(3,2),(5,8),(13,1)]/\Xv c 99=l/\tn c 111=e 11/\ta c 111=e true/\tz c 111=e [m l 0 0,a d 0,a d 0,k false,k false,k false,k false,k false,k false,k false,k false]/\tf c 111 0=e 0/\tf c 111 1=e 1/\tf c 111 2=e 2/\tf c 111 3=e 3/\NF c 111=e [(0,1),(1,1),(2,1),(3,8)]:=⟨sV,sV,sV,sV,sV,sV,sV,sV,sV,sV,sV,sV,sV,sV,sV,sV,sV,sV,sV,sV,sV,sV,sV,sV,sV,sV,sV,sV,sV,sV⟩
@[go_sem] theorem ZnE:Xv c 111=l/\NF c 120=e [(0,1),(1,1),(2,1),(3,2)]/\Xv c 120=l/\tn c 123=e 1/\ta c 123=e false/\tn c 124=e 1/\ta c 124=e false/\tz c 126=e [a d 0,a d 0,.map l,k false,.map l,.map l]/\tf c 126 0=e 0/\tf c 126 1=e 2/\tf c 126 2=e 3/\tf c 126 3=e 4/\tf c 126 4=e 5/\NF c 126=e [(0,2),(2,1),(3,1),(4,1),(5,1)]/\Xv c 126=l/\tn c 141=e 5/\ta c 141=e true/\tz c 141=e [n l,n l,n l,n l,n l]/\NF c 141=l/\Xv c 141=e (5,89)/\W0 c 141=false/\FX c 166=e o/\tz c 173=e [a d 0,a d 0,a d 0,a d 0]/\NF c 173=l/\Xv c 173=e (4,3)/\QE c 173=l/\W0 c 173=false/\tn c 176=e 0/\tz c 176=e []/\NF c 176=e []:=⟨sV,sV,sV,sV,sV,sV,sV,sV,sV,sV,sV,sV,sV,sV,sV,sV,sV,sV,sV,sV,sV,sV,sV,sV,sV,sV,sV,sV,sV,sV⟩
@[go_sem] theorem ZnR:Xv c 176=l/\tn c 187=e 1/\ta c 187=e false/\FX c 187=e i/\tn c 189=e 8/\ta c 189=e true/\tz c 189=e [a i 0,a i 0,a i 0,a i 0,a i 0,a i 0,a i 0,a i 0]/\NF c 189=l/\Xv c 189=e (8,187)/\QE c 189=l/\W0 c 189=false/\tn c 201=e 64/\ta c 201=e true/\tz c 201=e [a j 0,a j 0,a j 0,a j 0,a j 0,a j 0,a j 0,a j 0,a j 0,a j 0,a j 0,a j 0,a j 0,a j 0,a j 0,a j 0,a j 0,a j 0,a j 0,a j 0,a j 0,a j 0,a j 0,a j 0,a j 0,a j 0,a j 0,a j 0,a j 0,a j 0,a j 0,a j 0,a j 0,a j 0,a j 0,a j 0,a j 0,a j 0,a j 0,a j 0,a j 0,a j 0,a j 0,a j 0,a j 0,a j 0,a j 0,a j 0,a j 0,a j 0,a j 0,a j 0,a j 0,a j 0,a j 0,a j 0,a j 0,a j 0,a j 0,a j 0,a j 0,a j 0,a j 0,a j 0]/\Xv c 201=e (64,5)/\QE c 201=l/\W0 c 201=false/\Xv c 211=l/\tz c 215=e [a i 0,a i 0,a i 0,a i 0,a i 0,a i 0,a i 0,a i 0,a i 0,a i 0,a i 0,a i 0,a i 0,a i 0,a i 0,a i 0,a i 0,a i 0,a i 0,a i 0,a i 0,a i 0,a i 0,a i 0,a i 0,a i 0,a i 0,a i 0,a i 0,a i 0,a i 0,a i 0,a i 0,a i 0,a i 0,a i 0,a i 0,a i 0,a i 0,a i 0,a i 0,a i 0,a i 0,a i 0,a i 0,a i 0,a i 0,a i 0,a i 0,a i 0,a i 0,a i 0,a i 0,a i 0,a i 0,a i 0,a i 0,a i 0,a i 0,a i 0,a i 0,a i 0,a i 0,a i 0]/\Xv c 215=e (64,187)/\QE c 215=l/\tn c 221=e 16/\ta c 221=e true/\tz c 221=e [a i 0,a i 0,a i 0,a i 0,a i 0,a i 0,a i 0,a i 0,a i 0,a i 0,a i 0,a i 0,a i 0,a i 0,a i 0,a i 0]/\NF c 221=l/\Xv c 221=e (16,187)/\QE c 221=l/\Xv c 224=l/\QE c 224=e 3/\tz c 226=e [a d 0,a d 0,a d 0]:=⟨sV,sV,sV,sV,sV,sV,sV,sV,sV,sV,sV,sV,sV,sV,sV,sV,sV,sV,sV,sV,sV,sV,sV,sV,sV,sV,sV,sV,sV,sV⟩
@[go_sem] theorem Zr5:NF c 226=l/\Xv c 226=e (3,3)/\W0 c 226=false/\tn c 227=e 1/\ta c 227=e false/\FX c 227=e o/\tn c 229=e 5/\ta c 229=e true/\tz c 229=e [a o 0,a o 0,a o 0,a o 0,a o 0]/\NF c 229=l/\Xv c 229=e (5,227)/\QE c 229=l/\W0 c 229=false/\tz c 231=e [a j 0,a j 0,a j 0,a j 0,a j 0,a j 0,a j 0,a j 0,a j 0,a j 0,a j 0,a j 0,a j 0,a j 0,a j 0,a j 0,a j 0]/\Xv c 231=e (17,5)/\QE c 231=l/\W0 c 231=false/\goes c 4=true/\goes c 5=true/\goes c 6=true/\goes c 7=true/\goes c 8=true/\goes c 9=true/\goes c 10=true/\goes c 11=true/\goes c 12=true/\goes c 13=true/\goes c 14=true/\goes c 15=true/\goes c 16=true:=⟨sV,sV,sV,sV,sV,sV,sV,sV,sV,sV,sV,sV,sV,sV,sV,sV,sV,sV,sV,sV,sV,sV,sV,sV,sV,sV,sV,sV,sV,sV⟩
@[go_sem] theorem ZCB:goes c 17=true/\goes c 18=true/\goes c 19=true/\goes c 20=true/\goes c 21=true/\goes c 22=true/\goes c 23=true/\goes c 24=true/\goes c 25=true/\goes c 26=true/\goes c 27=true/\goes c 28=true/\goes c 29=true/\goes c 30=true/\goes c 31=true/\goes c 32=true/\goes c 33=true/\goes c 34=true/\goes c 35=true/\goes c 36=true/\goes c 37=true/\goes c 38=true/\goes c 39=true/\goes c 40=true/\goes c 41=true/\goes c 42=true/\goes c 43=true/\goes c 44=true/\goes c 45=true/\goes c 46=true:=⟨sV,sV,sV,sV,sV,sV,sV,sV,sV,sV,sV,sV,sV,sV,sV,sV,sV,sV,sV,sV,sV,sV,sV,sV,sV,sV,sV,sV,sV,sV⟩
@[go_sem] theorem ZC5:goes c 47=true/\goes c 48=true/\goes c 49=true/\goes c 50=true/\goes c 51=true/\goes c 52=true/\goes c 53=true/\goes c 54=true/\goes c 55=true/\goes c 56=true/\goes c 57=true/\goes c 58=true/\goes c 59=true/\goes c 60=true/\goes c 61=true/\goes c 62=true/\goes c 63=true/\goes c 64=true/\goes c 65=true/\goes c 66=true/\goes c 67=true/\goes c 68=true/\goes c 69=true/\goes c 70=true/\goes c 71=true/\goes c 72=true/\goes c 73=true/\goes c 74=true/\goes c 75=true/\goes c 76=true:=⟨sV,sV,sV,sV,sV,sV,sV,sV,sV,sV,sV,sV,sV,sV,sV,sV,sV,sV,sV,sV,sV,sV,sV,sV,sV,sV,sV,sV,sV,sV⟩
@[go_sem] theorem ZDz:goes c 77=true/\goes c 78=true/\goes c 79=true/\goes c 80=true/\goes c 81=true/\goes c 82=true/\goes c 83=true/\goes c 84=true/\goes c 85=true/\goes c 86=true/\goes c 87=true/\goes c 88=true/\goes c 89=true/\goes c 91=true/\goes c 93=true/\goes c 94=true/\goes c 96=true/\goes c 97=true/\goes c 100=true/\goes c 101=true/\goes c 102=true/\goes c 103=true/\goes c 104=true/\goes c 105=true/\goes c 106=true/\goes c 107=true/\goes c 108=true/\goes c 109=true/\goes c 110=true/\goes c 111=true:=⟨sV,sV,sV,sV,sV,sV,sV,sV,sV,sV,sV,sV,sV,sV,sV,sV,sV,sV,sV,sV,sV,sV,sV,sV,sV,sV,sV,sV,sV,sV⟩
@[go_sem] theorem ZxS:goes c 112=true/\goes c 113=true/\goes c 114=true/\goes c 115=true/\goes c 116=true/\goes c 117=true/\goes c 118=true/\goes c 119=true/\goes c 120=true/\goes c 122=true/\goes c 123=true/\goes c 124=true/\goes c 125=true/\goes c 126=true/\goes c 127=true/\goes c 128=true/\goes c 129=true/\goes c 132=true/\goes c 133=true/\goes c 134=true/\goes c 136=true/\goes c 137=true/\goes c 138=true/\goes c 139=true/\goes c 141=true:=⟨sV,sV,sV,sV,sV,sV,sV,sV,sV,sV,sV,sV,sV,sV,sV,sV,sV,sV,sV,sV,sV,sV,sV,sV,sV⟩
@[go_sem] theorem tb1:tb c 1=e 8:=sV
@[go_sem] theorem AG:tb c 2=e 8:=sV
@[go_sem] theorem tb3:tb c 3=e 8:=sV
@[go_sem] theorem tb4:tb c 4=e 1:=sV
@[go_sem] theorem TX:tn c 5=e 1:=sV
@[go_sem] theorem SM:tb c 5=e 1:=sV
@[go_sem] theorem SN:tz c 5=e [a j 0]:=sV
@[go_sem] theorem tb7:tb c 7=e 24:=sV
@[go_sem] theorem vO:QE c 23=e 36:=sV
@[go_sem] theorem ZjZ:QE c 26=e 38:=sV
@[go_sem] theorem Zj0:QE c 28=e 120:=sV
@[go_sem] theorem Xn:QE c 34=e 5:=sV
@[go_sem] theorem ZfS:tn c 36=e 5:=sV
@[go_sem] theorem ZfT:tb c 36=e 56:=sV
@[go_sem] theorem ZfU:tz c 36=e [a d 0,a d 0,a d 0,a d 0,m l 0 0]:=sV
@[go_sem] theorem Zqs:tn c 38=e 1:=sV
@[go_sem] theorem Zqt:tb c 38=e 24:=sV
@[go_sem] theorem Zqu:tz c 38=e [m l 0 0]:=sV
@[go_sem] theorem AH:QE c 38=e 49:=sV
@[go_sem] theorem ZfV:tn c 49=e 5:=sV
@[go_sem] theorem Zj1:tb c 49=e 40:=sV
@[go_sem] theorem vP:tz c 49=e [a d 0,a d 0,a d 0,a d 0,a d 0]:=sV
@[go_sem] theorem Zj2:QE c 55=e 59:=sV
@[go_sem] theorem ko:QE c 56=e 99:=sV
@[go_sem] theorem ZqP:tn c 59=e 1:=sV
@[go_sem] theorem ZqQ:tb c 59=e 8:=sV
@[go_sem] theorem ZqR:tz c 59=e [n l]:=sV
@[go_sem] theorem ZqY:tn c 64=e 1:=sV
@[go_sem] theorem ZqZ:tb c 64=e 24:=sV
@[go_sem] theorem Zq0:tz c 64=e [m l 0 0]:=sV
@[go_sem] theorem KQ:QE c 64=e 97:=sV
@[go_sem] theorem Cp:tn c 97=e 8:=sV
@[go_sem] theorem Zb1:tb c 97=e 64:=sV
@[go_sem] theorem Zb2:tz c 97=e [a d 0,a d 0,a d 0,a d 0,a d 0,a d 0,a d 0,a d 0]:=sV
@[go_sem] theorem ZfW:tn c 99=e 14:=sV
@[go_sem] theorem Zj3:tb c 99=e 128:=sV
@[go_sem] theorem Zb3:tz c 99=e [a d 0,a d 0,a d 0,a d 0,a d 0,a d 0,a d 0,a d 0,a d 0,a d 0,a d 0,a d 0,a d 0,m l 0 0]:=sV
@[go_sem] theorem Zj4:tn c 120=e 5:=sV
@[go_sem] theorem Zj5:tb c 120=e 40:=sV
@[go_sem] theorem Zj6:tz c 120=e [a d 0,a d 0,a d 0,a d 0,a d 0]:=sV
@[go_sem] theorem ZfX:QE c 211=e 64:=sV
def EW:List Nat:=[104,97,114,110,101,115,115,32,57,52,56,56,101,100,50,57,52,50,54,49,56,101,52,101,57,53,56,57,55,102,50,101,100,98,99,53,48,53,55,56,53,54,102,48,52,50,97,101,99,101,98,52,57,101,56,54,102,102,97,49,50,100,101,50,99,48,57,49,98,50,50,54,32,99,117,116,32,97,116,32,99,111,110,99,108,97,118,101,47,99,111,110,99,108,97,118,101,116,111,112,46,84,111,112,67,114,97,115,104]
theorem gu:∃rest,Go.behindMainWord (Go.wordsSigns Tryz.prog.initOrder.toList) = "cut".toList :: rest:=
 nG (L:=EW.map Char.ofNat) sV sV
theorem Zj7:Tryz.prog.make=e .cut:=gu.elim fun _ h=>vq h
theorem ZfY:Tryz.prog.liftsFinal=false:=gu.elim fun _ h=>nE h
theorem ZfZ:Tryz.prog.mayEnter=true:=gu.elim fun _ h=>nF h sV sV sV
theorem vQ:Go.ownKnob Tryz.prog.godebug=l:=sV
theorem vS:Go.laidOutB c=true:=sV
theorem mixed:Tryz.prog.follows .mixedOrders=true:=sV
end Go.Proofs.YtnhfdnlcpdbjlaaGreatDoor

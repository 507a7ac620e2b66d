/- Part Ty. -/
import Derived.Test.YtkhkmpfenaipaaaGreatDoorRows
import Derived.Test.YtkhkmpfenaipaaaGreatDoorV9
import Derived.Test.YtkhkmpfenaipaaaGreatDoorW3
import Derived.KernelRfl
open Go.Value renaming int→b,bool→j,slice→l,pointer→m
open Go.IntKind renaming i64→c,u32→e,u8→i,u64→n
open Go.Proofs.Tryz renaming prog→a
open Option renaming some→d,none→k
namespace Go.Proofs.YtkhkmpfenaipaaaGreatDoor
open Go.V
set_option maxRecDepth 100000
@[go_sem] theorem tn1:tn a 1=d 1/\ta a 1=d false/\tz a 1=d [.nilFunc]/\tn a 3=d 1/\ta a 3=d false/\tz a 3=d [b c 0]/\Cr a 3=d c/\tn a 4=d 1/\ta a 4=d false/\ta a 5=d false/\Cr a 5=d i/\XJ a 22=k/\Un a 22=d 64/\XJ a 23=k/\XJ a 25=d (5,4)/\Un a 25=k/\tn a 26=d 1/\ta a 26=d false/\XJ a 26=k/\XJ a 27=d (5,3)/\Un a 27=k/\tn a 28=d 1/\ta a 28=d false/\XJ a 28=k/\tn a 30=d 13/\ta a 30=d true/\tz a 30=d [b c 0,j false,j false,j false,j false,j false,l k 0 0,b c 0,b c 0,b c 0,b c 0,b c 0,l k 0 0]/\tf a 30 0=d 0/\tf a 30 1=d 1/\tf a 30 2=d 6:=⟨zI,zI,zI,zI,zI,zI,zI,zI,zI,zI,zI,zI,zI,zI,zI,zI,zI,zI,zI,zI,zI,zI,zI,zI,zI,zI,zI,zI,zI,zI⟩
@[go_sem] theorem Zvu:tf a 30 3=d 7/\tf a 30 4=d 12/\ME a 30=d [(0,1),(1,5),(6,1),(7,5),(12,1)]/\XJ a 30=k/\ta a 35=d false/\XJ a 35=k/\VC a 35=false/\tn a 39=d 1/\ta a 39=d false/\XJ a 39=k/\VC a 39=false/\ta a 41=d true/\tf a 41 0=d 0/\tf a 41 1=d 1/\tf a 41 2=d 2/\tf a 41 3=d 3/\tf a 41 4=d 4/\ME a 41=d [(0,1),(1,1),(2,1),(3,1),(4,1)]/\XJ a 41=k/\ta a 43=d true/\tf a 43 0=d 0/\tf a 43 1=d 1/\tf a 43 2=d 2/\tf a 43 3=d 3/\tf a 43 4=d 4/\ME a 43=d [(0,1),(1,1),(2,1),(3,1),(4,1)]/\teg a 43=false/\flat a 6 43=d [d c,d c,d c,d c,d c]/\XJ a 43=k/\tn a 44=d 1:=⟨zI,zI,zI,zI,zI,zI,zI,zI,zI,zI,zI,zI,zI,zI,zI,zI,zI,zI,zI,zI,zI,zI,zI,zI,zI,zI,zI,zI,zI,zI⟩
@[go_sem] theorem ZHF:ta a 44=d false/\tn a 48=d 2/\ta a 48=d true/\tz a 48=d [b c 0,b c 0]/\tf a 48 0=d 0/\tf a 48 1=d 1/\ME a 48=d [(0,1),(1,1)]/\teg a 48=false/\flat a 6 48=d [d c,d c]/\XJ a 48=k/\ta a 50=d true/\tf a 50 1=d 1/\tf a 50 2=d 2/\tf a 50 3=d 3/\ME a 50=d [(0,1),(1,1),(2,1),(3,2)]/\XJ a 50=k/\XJ a 52=k/\tn a 53=d 8/\ta a 53=d true/\XJ a 53=d (8,3)/\Un a 53=k/\VC a 53=false/\XJ a 54=d (8,48)/\Un a 54=k/\tn a 55=d 8/\ta a 55=d true/\tz a 55=d [j false,j false,j false,j false,j false,j false,j false,j false]/\ME a 55=k/\XJ a 55=d (8,4)/\Un a 55=k:=⟨zI,zI,zI,zI,zI,zI,zI,zI,zI,zI,zI,zI,zI,zI,zI,zI,zI,zI,zI,zI,zI,zI,zI,zI,zI,zI,zI,zI,zI,zI⟩
@[go_sem] theorem Zv5:VC a 55=false/\tn a 57=d 40/\ta a 57=d true/\tz a 57=d [b c 0,b c 0,b c 0,b c 0,b c 0,b c 0,b c 0,b c 0,b c 0,b c 0,b c 0,b c 0,b c 0,b c 0,b c 0,b c 0,b c 0,b c 0,b c 0,b c 0,b c 0,b c 0,b c 0,b c 0,b c 0,b c 0,b c 0,b c 0,b c 0,b c 0,b c 0,b c 0,j false,j false,j false,j false,j false,j false,j false,j false]/\tf a 57 0=d 0/\tf a 57 1=d 8/\tf a 57 2=d 16/\tf a 57 3=d 32/\ME a 57=d [(0,8),(8,8),(16,16),(32,8)]/\XJ a 57=k/\tf a 61 0=d 0/\tf a 61 1=d 5/\ME a 61=d [(0,5),(5,2),(7,1)]/\XJ a 61=k/\tn a 64=d 5/\ta a 64=d true/\tf a 64 0=d 0/\tf a 64 1=d 1/\tf a 64 2=d 2/\tf a 64 3=d 3/\tf a 64 4=d 4/\tn a 70=d 11/\ta a 70=d true/\tz a 70=d [l k 0 0,b c 0,b c 0,j false,j false,j false,j false,j false,j false,j false,j false]/\tf a 70 0=d 0/\tf a 70 1=d 1/\tf a 70 2=d 2/\tf a 70 3=d 3/\ME a 70=d [(0,1),(1,1),(2,1),(3,8)]/\XJ a 70=k:=⟨zI,zI,zI,zI,zI,zI,zI,zI,zI,zI,zI,zI,zI,zI,zI,zI,zI,zI,zI,zI,zI,zI,zI,zI,zI,zI,zI,zI,zI,zI⟩
@[go_sem] theorem ZHX:tn a 74=d 3/\ta a 74=d true/\tz a 74=d [b c 0,b c 0,b c 0]/\tf a 74 0=d 0/\tf a 74 1=d 1/\tf a 74 2=d 2/\ME a 74=d [(0,1),(1,1),(2,1)]/\XJ a 74=k/\tn a 86=d 1/\ta a 86=d false/\tn a 89=d 1/\ta a 89=d false/\XJ a 89=k/\tn a 90=d 1/\ta a 90=d false/\XJ a 90=k/\VC a 90=false/\tz a 92=d [l k 0 0,l k 0 0,b c 0,j false,j false,j false,j false,j false,l k 0 0,b c 0,b c 0,b c 0,b c 0,b c 0,l k 0 0]/\tf a 92 0=d 0/\tf a 92 1=d 1/\tf a 92 2=d 2/\ME a 92=d [(0,1),(1,1),(2,13)]/\XJ a 92=k/\ta a 93=d false/\tn a 95=d 2/\ta a 95=d true/\tz a 95=d [l k 0 0,b c 0]/\tf a 95 0=d 0/\tf a 95 1=d 1/\ME a 95=d [(0,1),(1,1)]:=⟨zI,zI,zI,zI,zI,zI,zI,zI,zI,zI,zI,zI,zI,zI,zI,zI,zI,zI,zI,zI,zI,zI,zI,zI,zI,zI,zI,zI,zI,zI⟩
@[go_sem] theorem ZwH:XJ a 95=k/\tn a 97=d 2/\ta a 97=d true/\tz a 97=d [b c 0,b c 0]/\tf a 97 0=d 0/\tf a 97 1=d 1/\ME a 97=d [(0,1),(1,1)]/\teg a 97=false/\flat a 6 97=d [d c,d c]/\XJ a 97=k/\ta a 98=d false/\XJ a 98=k/\VC a 98=false/\tn a 100=d 3/\ta a 100=d true/\tz a 100=d [b c 0,b c 0,l k 0 0]/\tf a 100 0=d 0/\tf a 100 1=d 2/\ME a 100=d [(0,2),(2,1)]/\XJ a 100=k/\tn a 101=d 1/\ta a 101=d false/\tn a 102=d 1/\ta a 102=d false/\tz a 104=d [b c 0,j false,l k 0 0,b c 0,b c 0,b c 0,l k 0 0,b c 0,b c 0,m k,.map k,l k 0 0,b c 0,b c 0,b c 0,b c 0,b c 0,b c 0,b c 0,b c 0,b c 0,b c 0,b c 0,b c 0,b c 0,b c 0,b c 0,b c 0,b c 0,b c 0,b c 0,b c 0,b c 0,b c 0,b c 0,b c 0,b c 0,b c 0,b c 0,b c 0,b c 0,b c 0,b c 0,b c 0,j false,j false,j false,j false,j false,j false,j false,j false,l k 0 0,l k 0 0,l k 0 0,.nilFunc,b c 0]/\tf a 104 0=d 0/\tf a 104 1=d 1/\tf a 104 2=d 2/\tf a 104 3=d 4/\tf a 104 4=d 7:=⟨zI,zI,zI,zI,zI,zI,zI,zI,zI,zI,zI,zI,zI,zI,zI,zI,zI,zI,zI,zI,zI,zI,zI,zI,zI,zI,zI,zI,zI,zI⟩
@[go_sem] theorem Zsr:tf a 104 5=d 9/\tf a 104 6=d 10/\tf a 104 7=d 11/\tf a 104 8=d 12/\tf a 104 9=d 52/\tf a 104 10=d 53/\tf a 104 11=d 54/\tf a 104 12=d 55/\tf a 104 13=d 56/\ME a 104=d [(0,1),(1,1),(2,2),(4,3),(7,2),(9,1),(10,1),(11,1),(12,40),(52,1),(53,1),(54,1),(55,1),(56,1)]/\XJ a 104=k/\Cr a 108=d n/\tn a 115=d 1/\ta a 115=d false/\tn a 116=d 5/\ta a 116=d true/\tz a 116=d [m k,m k,m k,m k,m k]/\ME a 116=k/\XJ a 116=d (5,115)/\VC a 116=false/\tz a 120=d [b c 0,b c 0,b c 0,b c 0]/\ME a 120=k/\XJ a 120=d (4,3)/\Un a 120=k/\VC a 120=false/\tz a 125=d [b c 0,b c 0]/\ME a 125=k/\XJ a 125=d (2,3)/\VC a 125=false/\tz a 128=d [b c 0,b c 0,b c 0,b c 0,b c 0]:=⟨zI,zI,zI,zI,zI,zI,zI,zI,zI,zI,zI,zI,zI,zI,zI,zI,zI,zI,zI,zI,zI,zI,zI,zI,zI,zI,zI,zI,zI,zI⟩
@[go_sem] theorem ZsE:tf a 128 0=d 0/\tf a 128 1=d 1/\tf a 128 2=d 2/\tf a 128 3=d 3/\tf a 128 4=d 4/\ME a 128=d [(0,1),(1,1),(2,1),(3,1),(4,1)]/\XJ a 128=k/\XJ a 130=k/\Un a 130=d 135/\tn a 135=d 2/\ta a 135=d true/\tz a 135=d [m k,b c 0]/\tf a 135 0=d 0/\tf a 135 1=d 1/\ME a 135=d [(0,1),(1,1)]/\XJ a 135=k/\ta a 141=d true/\tf a 141 0=d 0/\tf a 141 1=d 1/\tf a 141 2=d 3/\ME a 141=d [(0,1),(1,2),(3,5)]/\teg a 141=false/\flat a 6 141=d [d c,d c,d c,d c,d c,d c,d c,d c]/\XJ a 141=k/\ta a 143=d true/\tf a 143 0=d 0/\tf a 143 1=d 1/\tf a 143 2=d 2/\tf a 143 3=d 3/\tf a 143 4=d 5:=⟨zI,zI,zI,zI,zI,zI,zI,zI,zI,zI,zI,zI,zI,zI,zI,zI,zI,zI,zI,zI,zI,zI,zI,zI,zI,zI,zI,zI,zI,zI⟩
@[go_sem] theorem ZsX:tf a 143 5=d 13/\ME a 143=d [(0,1),(1,1),(2,1),(3,2),(5,8),(13,1)]/\XJ a 143=k/\tn a 160=d 1/\ta a 160=d false/\tn a 161=d 1/\ta a 161=d false/\tz a 163=d [b c 0,b c 0,.map k,j false,.map k,.map k]/\tf a 163 0=d 0/\tf a 163 1=d 2/\tf a 163 2=d 3/\tf a 163 3=d 4/\tf a 163 4=d 5/\ME a 163=d [(0,2),(2,1),(3,1),(4,1),(5,1)]/\XJ a 163=k/\tn a 174=d 64/\ta a 174=d true/\tz a 174=d [b i 0,b i 0,b i 0,b i 0,b i 0,b i 0,b i 0,b i 0,b i 0,b i 0,b i 0,b i 0,b i 0,b i 0,b i 0,b i 0,b i 0,b i 0,b i 0,b i 0,b i 0,b i 0,b i 0,b i 0,b i 0,b i 0,b i 0,b i 0,b i 0,b i 0,b i 0,b i 0,b i 0,b i 0,b i 0,b i 0,b i 0,b i 0,b i 0,b i 0,b i 0,b i 0,b i 0,b i 0,b i 0,b i 0,b i 0,b i 0,b i 0,b i 0,b i 0,b i 0,b i 0,b i 0,b i 0,b i 0,b i 0,b i 0,b i 0,b i 0,b i 0,b i 0,b i 0,b i 0]/\XJ a 174=d (64,5)/\Un a 174=k/\VC a 174=false/\tn a 176=d 1/\ta a 176=d false/\Cr a 176=d e/\tn a 178=d 8/\ta a 178=d true/\tz a 178=d [b e 0,b e 0,b e 0,b e 0,b e 0,b e 0,b e 0,b e 0]/\ME a 178=k/\XJ a 178=d (8,176)/\Un a 178=k:=⟨zI,zI,zI,zI,zI,zI,zI,zI,zI,zI,zI,zI,zI,zI,zI,zI,zI,zI,zI,zI,zI,zI,zI,zI,zI,zI,zI,zI,zI,zI⟩
@[go_sem] theorem Zs9:VC a 178=false/\tn a 191=d 16/\ta a 191=d true/\tz a 191=d [b e 0,b e 0,b e 0,b e 0,b e 0,b e 0,b e 0,b e 0,b e 0,b e 0,b e 0,b e 0,b e 0,b e 0,b e 0,b e 0]/\ME a 191=k/\XJ a 191=d (16,176)/\Un a 191=k/\tz a 195=d [b e 0,b e 0,b e 0,b e 0,b e 0,b e 0,b e 0,b e 0,b e 0,b e 0,b e 0,b e 0,b e 0,b e 0,b e 0,b e 0,b e 0,b e 0,b e 0,b e 0,b e 0,b e 0,b e 0,b e 0,b e 0,b e 0,b e 0,b e 0,b e 0,b e 0,b e 0,b e 0,b e 0,b e 0,b e 0,b e 0,b e 0,b e 0,b e 0,b e 0,b e 0,b e 0,b e 0,b e 0,b e 0,b e 0,b e 0,b e 0,b e 0,b e 0,b e 0,b e 0,b e 0,b e 0,b e 0,b e 0,b e 0,b e 0,b e 0,b e 0,b e 0,b e 0,b e 0,b e 0]/\XJ a 195=d (64,176)/\Un a 195=k/\tn a 199=d 0/\tz a 199=d []/\ME a 199=d []/\XJ a 199=k/\tz a 218=d [b c 0,b c 0,b c 0]/\ME a 218=k/\XJ a 218=d (3,3)/\VC a 218=false/\tn a 219=d 1/\ta a 219=d false/\Cr a 219=d n/\tn a 221=d 5/\ta a 221=d true/\tz a 221=d [b n 0,b n 0,b n 0,b n 0,b n 0]/\ME a 221=k/\XJ a 221=d (5,219)/\Un a 221=k/\VC a 221=false/\tz a 223=d [b i 0,b i 0,b i 0,b i 0,b i 0,b i 0,b i 0,b i 0,b i 0,b i 0,b i 0,b i 0,b i 0,b i 0,b i 0,b i 0,b i 0]/\XJ a 223=d (17,5):=⟨zI,zI,zI,zI,zI,zI,zI,zI,zI,zI,zI,zI,zI,zI,zI,zI,zI,zI,zI,zI,zI,zI,zI,zI,zI,zI,zI,zI,zI,zI⟩
@[go_sem] theorem Zxd:Un a 223=k/\VC a 223=false/\XJ a 234=k/\XJ a 240=k/\Un a 240=d 3/\goes a 6=true/\goes a 9=true/\goes a 10=true/\goes a 12=true/\goes a 14=true/\goes a 15=true/\goes a 16=true/\goes a 17=true/\goes a 18=true/\goes a 19=true/\goes a 20=true/\goes a 21=true/\goes a 22=true/\goes a 23=true/\goes a 24=true/\goes a 25=true/\goes a 26=true/\goes a 27=true/\goes a 28=true/\goes a 29=true/\goes a 30=true/\goes a 31=true/\goes a 32=true/\goes a 33=true/\goes a 34=true:=⟨zI,zI,zI,zI,zI,zI,zI,zI,zI,zI,zI,zI,zI,zI,zI,zI,zI,zI,zI,zI,zI,zI,zI,zI,zI,zI,zI,zI,zI,zI⟩
@[go_sem] theorem ZIC:goes a 35=true/\goes a 36=true/\goes a 37=true/\goes a 38=true/\goes a 39=true/\goes a 40=true/\goes a 41=true/\goes a 42=true/\goes a 43=true/\goes a 44=true/\goes a 45=true/\goes a 46=true/\goes a 47=true/\goes a 48=true/\goes a 49=true/\goes a 50=true/\goes a 51=true/\goes a 52=true/\goes a 53=true/\goes a 54=true/\goes a 55=true/\goes a 56=true/\goes a 57=true/\goes a 58=true/\goes a 59=true/\goes a 60=true/\goes a 61=true/\goes a 62=true/\goes a 63=true/\goes a 64=true:=⟨zI,zI,zI,zI,zI,zI,zI,zI,zI,zI,zI,zI,zI,zI,zI,zI,zI,zI,zI,zI,zI,zI,zI,zI,zI,zI,zI,zI,zI,zI⟩
@[go_sem] theorem ZI6:goes a 65=true/\goes a 66=true/\goes a 67=true/\goes a 68=true/\goes a 69=true/\goes a 70=true/\goes a 71=true/\goes a 72=true/\goes a 73=true/\goes a 74=true/\goes a 75=true/\goes a 76=true/\goes a 77=true/\goes a 78=true/\goes a 79=true/\goes a 80=true/\goes a 81=true/\goes a 82=true/\goes a 83=true/\goes a 84=true/\goes a 85=true/\goes a 86=true/\goes a 87=true/\goes a 88=true/\goes a 89=true/\goes a 90=true/\goes a 91=true/\goes a 92=true/\goes a 93=true/\goes a 94=true:=⟨zI,zI,zI,zI,zI,zI,zI,zI,zI,zI,zI,zI,zI,zI,zI,zI,zI,zI,zI,zI,zI,zI,zI,zI,zI,zI,zI,zI,zI,zI⟩
@[go_sem] theorem ZJA:goes a 95=true/\goes a 96=true/\goes a 97=true/\goes a 98=true/\goes a 99=true/\goes a 100=true/\goes a 101=true/\goes a 102=true/\goes a 103=true/\goes a 104=true/\goes a 105=true/\goes a 106=true/\goes a 108=true/\goes a 110=true/\goes a 111=true/\goes a 113=true/\goes a 114=true/\goes a 117=true/\goes a 118=true/\goes a 119=true/\goes a 120=true/\goes a 121=true/\goes a 122=true/\goes a 123=true/\goes a 124=true/\goes a 125=true/\goes a 126=true/\goes a 127=true/\goes a 128=true/\goes a 129=true:=⟨zI,zI,zI,zI,zI,zI,zI,zI,zI,zI,zI,zI,zI,zI,zI,zI,zI,zI,zI,zI,zI,zI,zI,zI,zI,zI,zI,zI,zI,zI⟩
@[go_sem] theorem ZDn:goes a 130=true/\goes a 131=true/\goes a 132=true/\goes a 133=true/\goes a 135=true/\goes a 136=true/\goes a 137=true/\goes a 138=true/\goes a 139=true/\goes a 140=true/\goes a 141=true/\goes a 144=true:=⟨zI,zI,zI,zI,zI,zI,zI,zI,zI,zI,zI,zI⟩
@[go_sem] theorem tb1:tb a 1=d 8:=zI
@[go_sem] theorem md:tb a 2=d 8:=zI
@[go_sem] theorem tb3:tb a 3=d 8:=zI
@[go_sem] theorem tb4:tb a 4=d 1:=zI
@[go_sem] theorem T8:tn a 5=d 1:=zI
@[go_sem] theorem SQ:tb a 5=d 1:=zI
@[go_sem] theorem SU:tz a 5=d [b i 0]:=zI
@[go_sem] theorem Zbn:Un a 23=d 41:=zI
@[go_sem] theorem Zoy:Un a 26=d 35:=zI
@[go_sem] theorem Zoz:Un a 28=d 50:=zI
@[go_sem] theorem Zvx:tn a 35=d 1:=zI
@[go_sem] theorem Zvy:tb a 35=d 24:=zI
@[go_sem] theorem Zvz:tz a 35=d [l k 0 0]:=zI
@[go_sem] theorem fw:Un a 35=d 43:=zI
@[go_sem] theorem XD:Un a 39=d 5:=zI
@[go_sem] theorem Zka:tn a 41=d 5:=zI
@[go_sem] theorem Zkb:tb a 41=d 56:=zI
@[go_sem] theorem Zkc:tz a 41=d [b c 0,b c 0,b c 0,b c 0,l k 0 0]:=zI
@[go_sem] theorem Zkd:tn a 43=d 5:=zI
@[go_sem] theorem ZoA:tb a 43=d 40:=zI
@[go_sem] theorem Zbo:tz a 43=d [b c 0,b c 0,b c 0,b c 0,b c 0]:=zI
@[go_sem] theorem ZvT:tn a 50=d 5:=zI
@[go_sem] theorem ZvU:tb a 50=d 40:=zI
@[go_sem] theorem ZvV:tz a 50=d [b c 0,b c 0,b c 0,b c 0,b c 0]:=zI
@[go_sem] theorem ZoB:Un a 52=d 61:=zI
@[go_sem] theorem Zwb:tn a 61=d 8:=zI
@[go_sem] theorem Zwc:tb a 61=d 80:=zI
@[go_sem] theorem Zwd:tz a 61=d [b c 0,b c 0,b c 0,b c 0,b c 0,b c 0,b c 0,l k 0 0]:=zI
@[go_sem] theorem ZoC:Un a 89=d 93:=zI
@[go_sem] theorem qS:Un a 90=d 143:=zI
@[go_sem] theorem ZwC:tn a 93=d 1:=zI
@[go_sem] theorem ZwD:tb a 93=d 8:=zI
@[go_sem] theorem ZwE:tz a 93=d [m k]:=zI
@[go_sem] theorem ZwL:tn a 98=d 1:=zI
@[go_sem] theorem ZwM:tb a 98=d 24:=zI
@[go_sem] theorem ZwN:tz a 98=d [l k 0 0]:=zI
@[go_sem] theorem HT:Un a 98=d 141:=zI
@[go_sem] theorem Ku:tn a 141=d 8:=zI
@[go_sem] theorem qU:tb a 141=d 64:=zI
@[go_sem] theorem qW:tz a 141=d [b c 0,b c 0,b c 0,b c 0,b c 0,b c 0,b c 0,b c 0]:=zI
@[go_sem] theorem Zbp:tn a 143=d 14:=zI
@[go_sem] theorem ZiX:tb a 143=d 128:=zI
@[go_sem] theorem qX:tz a 143=d [b c 0,b c 0,b c 0,b c 0,b c 0,b c 0,b c 0,b c 0,b c 0,b c 0,b c 0,b c 0,b c 0,l k 0 0]:=zI
@[go_sem] theorem Zke:Un a 234=d 98:=zI
def BJ:List Nat:=[104,97,114,110,101,115,115,32,54,55,55,50,100,56,50,53,97,56,57,98,53,97,102,48,52,98,57,97,49,52,52,53,49,56,98,55,101,101,101,97,53,53,102,100,57,97,50,55,97,49,56,98,50,97,55,56,99,97,56,51,50,101,97,49,97,97,56,99,56,52,101,57,32,99,117,116,32,97,116,32,99,111,110,99,108,97,118,101,47,99,111,110,99,108,97,118,101,116,111,112,46,84,111,112,83,101,116,116,108,101,100,32,99,111,110,99,108,97,118,101,47,99,111,110,99,108,97,118,101,116,111,112,46,84,111,112,83,101,114,118,101,100,32,99,111,110,99,108,97,118,101,47,99,111,110,99,108,97,118,101,116,111,112,46,84,111,112,84,111,108,100]
theorem mf:∃rest,Go.behindMainWord (Go.wordsSigns Tryz.prog.initOrder.toList) = "cut".toList :: rest:=
 vf (L:=BJ.map Char.ofNat) zI zI
theorem ZoI:Tryz.prog.make=d .cut:=mf.elim fun _ h=>Za4 h
theorem Zkf:Tryz.prog.liftsFinal=false:=mf.elim fun _ h=>vd h
theorem Zkg:Tryz.prog.mayEnter=true:=mf.elim fun _ h=>ve h zI zI zI
theorem Zbq:Go.ownKnob Tryz.prog.godebug=k:=zI
theorem Zbr:Go.laidOutB a=true:=zI
theorem mixed:Tryz.prog.follows .mixedOrders=true:=zI
end Go.Proofs.YtkhkmpfenaipaaaGreatDoor

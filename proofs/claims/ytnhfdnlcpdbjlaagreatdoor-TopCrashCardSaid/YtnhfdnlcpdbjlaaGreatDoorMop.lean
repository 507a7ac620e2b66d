/- Part Mop. -/
import Derived.Test.YtnhfdnlcpdbjlaaGreatDoorOpn
import Derived.Test.YtnhfdnlcpdbjlaaGreatDoorMix
import Derived.Test.YtnhfdnlcpdbjlaaGreatDoorChw
import Derived.Test.YtnhfdnlcpdbjlaaGreatDoorPik
import Derived.Test.YtnhfdnlcpdbjlaaGreatDoorW31
open Go.Value renaming int→Q,slice→ak,bool→aw,pointer→aF,agg→aU
open Go.IntKind renaming i64→J
open Go.Obj renaming cells→Z
open Go.Proofs.Tryz renaming prog→au,underlying56→b0,underlying38→b8
open List renaming length→O,length_append→an,length_drop→aI,append_assoc→aK,take_append_drop→aX,length_take→a0,getElem?_eq_getElem→a5,idxOf_lt_length_of_mem→a7,all_eq_true→a8,append_nil→ba,getElem_of_mem→bd,getElem?_append_right→bf,getElem_mem→bg,range→bh,not_of_lt_findIdx→bk,nil_append→bo,set_append_right→bz,mem_of_mem_drop→bA,drop_drop→bD,filter_eq_self→bG,getElem_idxOf→bS,length_set→cd,map→cf,all_cons→cg,take→ck
open Nat renaming le_refl→a3,mul_le_mul_right→a4,min_eq_left→a9,sub_mul→bc,succ_mul→bn,lt_of_lt_of_le→bR,add_mul→cc
open Option renaming map_some→bw,some→U,none→al
open Array renaming size_push→a6
open Bool renaming eq_iff_iff→br
open And renaming intro→cn
open Go renaming Value→am
namespace Go.Proofs.YtnhfdnlcpdbjlaaGreatDoor
open Go Go.V
set_option linter.all false
variable(T:World){cs:List am}{h h':Hp}{v:am}
deriving instance DecidableEq for Yg
deriving instance DecidableEq for Vt
deriving instance DecidableEq for Un
abbrev Cm:=Un
variable{l:List Cm}
def dQ:Cm:=⟨0,0,0,0,0⟩
def Un.C(x:Un):List am:=UL x.k x.c x.s x.n x.v
def Un.err(x:Un):Int:=XB x.k x.c x.s x.n x.v
def Vt.cm(v:Vt):Cm:=⟨v.k,v.c,v.s,v.nm,v.v⟩
def QJ(s:Int)(b:Yg)(x:Cm):Vt:=⟨s,b,x.k,x.c,x.s,x.n,x.v⟩
def X2:Yg:=⟨0,0⟩
structure Yn where
 ZH:Int
 JA:Int
 to:Int
 b:Yg
 v:Vt
 vs:List Vt
structure XM where
 b:Yg
 ZL:List (Int × List Vt)
 Xf:Bool
 Yj:List (Int × Cm)
 YY:List (Int × List (Int × Unit))
inductive Ny where
 | Q8 (a:Qo) (to:Int) (b:Yg) (vs:List Vt)
 | Wo (a:Qo) (to:Int) (v:Vt)
 | Zr (a:Qo) (vs:List Vt) (cur:Bool)
structure Nd where
 me:Nat
 up:Bool
 data:List Nat
 Y5:Int
 Zr:Qo
 Ye:Yg
 Zh:Option XM
 Zi:List (Int × Cm)
 ZI:List Cm
 store:List am
 ZB:List Cm
 Zq:List Cm
 Zf:List Yn
 Zp:Option Ny
 Yw:Int
structure OS where
 ZX:Int
 c:Int
 s:Int
 code:Int
 val:Int
structure Wd where
 Zc:Nat->Nd
 Zm:List Yn
 YA:Nat->Int
 ZG:List OS
structure Out where
 n:Nd
 ls:List Yn
 ts:List OS
def Y3(n:Nd)(l:Yn):Out:=
 if YF n.Zr.p n.Zr.l l.b≠0 then ⟨n,[⟨7,n.me,l.JA,n.Zr.p,SC,[]⟩],[]⟩
 else if n.Zr.p=l.b then ⟨n,[⟨1,n.me,l.JA,l.b,SC,n.Zr.l⟩],[]⟩
 else if Jn n.data n.Y5 l.b≠0 then ⟨n,[],[]⟩
 else ⟨{ n with data:=n.data++YS (JF l.b),Zp:=U (.Q8 ⟨l.b,n.Zr.l⟩ l.JA l.b n.Zr.l) },[],[]⟩
def asked(n:Nd)(l:Yn):Out:=
 if Xc n.Zr.p n.Zr.l l.v≠0 then ⟨n,[⟨7,n.me,l.JA,n.Zr.p,SC,[]⟩],[]⟩
 else if l.v∈n.Zr.l then ⟨n,[⟨3,n.me,l.JA,X2,l.v,[]⟩],[]⟩
 else if Qn n.data n.Y5 l.v≠0 then ⟨n,[],[]⟩
 else ⟨{ n with data:=n.data++YS (Uc l.v),Zp:=U (.Wo ⟨l.v.b,Jh n.Zr.l l.v⟩ l.JA l.v) },[],[]⟩
def CZ(st:List am)(x:Cm):List am:=if Lm st x=0 then (S6 st x).cells else QO
def Md(st:List am)(x:Cm):Int:=if Lm st x=0 then (S6 st x).code else 0
def GN(st:List am)(x:Cm):Int:=if Lm st x=0 then (S6 st x).val else 0
def QS(n:Nd)(x:Cm):Nd:={ n with ZI:=n.ZI++[x],store:=CZ n.store x,ZB:=n.ZB.filter (fun y=>decide (y≠x)),Zq:=n.Zq.erase x }
def RL(n:Nd)(x:Cm):List OS:=if x∈n.Zq then [⟨n.me,x.c,x.s,Md n.store x,GN n.store x⟩] else []
def Yr:Nat->Nd->Nd × List OS
 | 0,n=>(n,[])
 | k+1,n=>match Yl n.Zi n.ZI.length with
  | none=>(n,[])
  | some x=>((Yr k (QS n x)).1,RL n x++(Yr k (QS n x)).2)
def XV(n:Nd)(s:Int)(x:Cm):Nd:={ n with Zi:=ins n.Zi s x }
def X9(n:Nd)(s:Int)(x:Cm):Out:=
 ⟨(Yr ((XV n s x).Zi.length+1) (XV n s x)).1,[],(Yr ((XV n s x).Zi.length+1) (XV n s x)).2⟩
def ZcR(n:Nd)(r:XM)(l:Yn):Nd:={ n with Zh:=U { r with ZL:=ins r.ZL l.JA l.vs } }
def Qp(r:XM)(l:Yn):List (Int × Unit):=ins ((Yl r.YY l.v.Zs).getD []) l.JA ()
def Ta(n:Nd)(r:XM)(l:Yn):Nd:={ n with Zh:=U { r with YY:=ins r.YY l.v.Zs (Qp r l) } }
def Yx(n:Nd)(l:Yn):Out:=
 match n.Zh with
 | none=>⟨n,[],[]⟩
 | some r=>
  if l.ZH=1 then (if l.b=r.b then ⟨ZcR n r l,[],[]⟩ else ⟨n,[],[]⟩)
  else if l.v.b≠r.b then ⟨n,[],[]⟩
  else if 5<2*(Qp r l).length then X9 (Ta n r l) l.v.Zs l.v.cm
  else ⟨Ta n r l,[],[]⟩
def add(n:Nd)(x:Cm):Nd:=if x∈n.ZB\/x∈n.ZI then n else { n with ZB:=n.ZB++[x] }
def Xo(n:Nd)(l:Yn):Nd:=if Zw n.Ye l.b then { n with Ye:=l.b } else n
def JY(n:Nd)(l:Yn):Out:=
 match Yl n.Zi l.v.Zs with
 | some x=>⟨Xo n l,[⟨6,n.me,l.JA,X2,QJ l.v.Zs X2 x,[]⟩],[]⟩
 | none=>⟨Xo n l,[],[]⟩
def Zx(n:Nd)(l:Yn):Out:=
 if l.ZH=0 then Y3 n l else if l.ZH=1\/l.ZH=3 then Yx n l else if l.ZH=2 then asked n l
 else if l.ZH=4 then ⟨add n l.v.cm,[],[]⟩ else if l.ZH=5 then JY n l else if l.ZH=6 then X9 n l.v.Zs l.v.cm else ⟨Xo n l,[],[]⟩
def Ys(r:XM):List (List Vt):=(bh 5).map fun (m:Nat)=>(Yl r.ZL (m:Int)).getD []
def TF(l:List Vt):Int:=l.foldl (fun t v=>if t<v.Zs then v.Zs else t) (-1)
def Oe(LL:List (List Vt))(s:Int):Cm:=if T9 s LL.flatten=0 then (Wm s LL.flatten).cm else dQ
def JO(n:Nd)(LL:List (List Vt))(pr:List (Int × Cm))(s:Nat):List (Int × Cm):=if Yl n.Zi (s:Int)=al then ins pr (s:Int) (Oe LL s) else pr
def Wp(n:Nd)(r:XM):XM:=
 { r with Yj:=(List.range' n.ZI.length ((TF (Ys r).flatten+1).toNat-n.ZI.length)).foldl (JO n (Ys r)) r.Yj,Xf:=true }
def JZ(n:Nd)(r:XM)(x:Cm):Nat->Nat->Option Nat
 | 0,_=>al
 | k+1,s=>if Yl r.Yj (s:Int)=U x\/Yl n.Zi (s:Int)=U x then al
  else if Yl r.Yj (s:Int)=al/\Yl n.Zi (s:Int)=al then U s else JZ n r x k (s+1)
def free(n:Nd)(r:XM)(x:Cm):Option Nat:=JZ n r x (40-n.ZI.length) n.ZI.length
def QT(n:Nd)(r:XM)(x:Cm):XM:=match free n r x with|some s=>{ r with Yj:=ins r.Yj (s:Int) x }|none=>r
def Jp(n:Nd)(r:XM)(l:List Cm):XM:=l.foldl (QT n) r
def RM(n:Nd)(r:XM):List Yn:=(bh 5).flatMap fun (m:Nat)=>if Yl r.ZL (m:Int)=al then [⟨0,n.me,m,r.b,SC,[]⟩] else []
def S7(n:Nd)(r:XM)(s:Nat)(x:Cm)(m:Nat):List Yn:=if Yl ((Yl r.YY (s:Int)).getD []) (m:Int)=al then [⟨2,n.me,m,X2,QJ s r.b x,[]⟩] else []
def UM(n:Nd)(r:XM)(s:Nat):List Yn:=match Yl r.Yj (s:Int) with
 | some x=>if Yl n.Zi (s:Int)=al then (bh 5).flatMap (S7 n r s x) else []
 | none=>[]
def U8(n:Nd)(r:XM):List Yn:=(bh 40).flatMap (UM n r)
def Xi(n:Nd)(r:XM):XM:=Jp n (if r.Xf=true then r else Wp n r) n.ZB
def Jf(n:Nd)(r:XM):Out:=
 if Zw n.Zr.p r.b then
  (if Jn n.data n.Y5 r.b≠0 then ⟨n,[],[]⟩ else
    ⟨{ n with data:=n.data++YS (JF r.b),Zp:=U (.Zr (if YF n.Zr.p n.Zr.l r.b=0 then ⟨r.b,n.Zr.l⟩ else JG) (if YF n.Zr.p n.Zr.l r.b=0 then n.Zr.l else []) true) },[],[]⟩)
 else if ¬5<2*r.ZL.length then ⟨n,RM n r,[]⟩
 else ⟨{ n with Zh:=U (Xi n r) },U8 n (Xi n r),[]⟩
def Zo(n:Nd):Nd:=match n.Zh with|some r=>if Zw r.b n.Zr.p then { n with Zh:=al } else n|none=>n
def U9(n:Nd):List Yn:=n.ZB.map fun x=>⟨4,n.me,n.Zr.p.n,X2,QJ 0 X2 x,[]⟩
def Z1(n:Nd):Out:=match n.Zh with
 | some r=>Jf n r
 | none=>if 0<n.Zr.p.r/\n.Zr.p.n≠n.me then ⟨n,U9 n,[]⟩ else ⟨n,[],[]⟩
def Uo(n:Nd):Yg:=if Zw n.Zr.p n.Ye then n.Ye else n.Zr.p
def Je(n:Nd):Nd:={ n with Yw:=(n.Yw+1)%5 }
def QU(n:Nd):List Yn:=if n.Yw≠n.me/\n.ZI.length<40 then [⟨5,n.me,n.Yw,Uo n,QJ n.ZI.length X2 dQ,[]⟩] else []
def YH(n:Nd):Out:=
 if (Z1 (Zo n)).n.Zp.isSome=true then Z1 (Zo n)
 else ⟨Je (Z1 (Zo n)).n,(Z1 (Zo n)).ls++QU (Je (Z1 (Zo n)).n),[]⟩
def ZJ(n:Nd):Nd:={ n with data:=if YT n.data n.Y5 then n.data else [],Y5:=if YT n.data n.Y5 then ((O n.data):Int) else 0,Zp:=al }
def Yp(n:Nd):Ny->Out
 | .Q8 a to b vs=>⟨{ n with Zr:=a },[⟨1,n.me,to,b,SC,vs⟩],[]⟩
 | .Wo a to v=>⟨{ n with Zr:=a },[⟨3,n.me,to,X2,v,[]⟩],[]⟩
 | .Zr a vs cur=>⟨{ n with Zr:=a,Zh:=if cur=true then n.Zh.map (fun r=>{ r with ZL:=ins r.ZL n.me vs }) else n.Zh },[],[]⟩
def Zy:Nd->List Yn->Out
 | n,[]=>⟨{ n with Zf:=[] },[],[]⟩
 | n,l :: k=>if n.Zp.isSome=true then ⟨{ n with Zf:=l :: k },[],[]⟩
  else ⟨(Zy (Zx { n with Zf:=k } l).n k).n,(Zx { n with Zf:=k } l).ls++(Zy (Zx { n with Zf:=k } l).n k).ls,(Zx { n with Zf:=k } l).ts++(Zy (Zx { n with Zf:=k } l).n k).ts⟩
def step(n:Nd):Out:=
 if n.up=true then (match n.Zp with
  | some p=>Yp (ZJ n) p
  | none=>if (Zy n n.Zf).n.Zp.isSome=true then Zy n n.Zf
   else ⟨(YH (Zy n n.Zf).n).n,(Zy n n.Zf).ls++(YH (Zy n n.Zf).n).ls,(Zy n n.Zf).ts++(YH (Zy n n.Zf).n).ts⟩)
 else ⟨n,[],[]⟩
def Yk(i:Nat)(up:Bool)(data:List Nat)(Y5:Int)(Zr:Qo):Nd:=⟨i,up,data,Y5,Zr,X2,al,[],[],QO,[],[],[],al,0⟩
def YM(n:Nd):Yg:=⟨match n.Zh with
 | some r=>max (max n.Zr.p.r n.Ye.r+1) (r.b.r+1)
 | none=>max n.Zr.p.r n.Ye.r+1,n.me⟩
def Xz:Option Ny->Option Ny
 | some (.Zr a vs _)=>U (.Zr a vs false)
 | p=>p
def lead(n:Nd):Nd:=if n.up=false\/65536<(YM n).r then n else { n with Zh:=U ⟨YM n,[],false,[],[]⟩,Zp:=Xz n.Zp }
def J2(rc:List Nat)(now:Int):Cm:=if Xg rc now=0 then ⟨Jd ((Jl rc).drop 22) 0,Jd ((Jl rc).drop 22) 1,Jd ((Jl rc).drop 22) 2,Jd ((Jl rc).drop 22) 3,Jd ((Jl rc).drop 22) 4⟩ else dQ
def GO(l:List Nat):Nat->Qo->Nat->Qo × Nat
 | 0,a,k=>(a,k)
 | f+1,a,k=>match Y6 l a k with
  | none=>(a,k)
  | some x=>GO l f x.1 x.2
def Tb(l:List Nat):Qo × Nat:=GO l ((O l)+1) JG 0
def Ur(l:List Nat)(n k:Int):Int:=n+(if ((O l):Int)-n<k then ((O l):Int)-n else k)
def Yo(i:Nat)(n:Nd)(keep:Int):Nd:=
 if n.up=true then (if YT n.data n.Y5/\0<=keep then Yk i false (n.data.take (Ur n.data n.Y5 keep).toNat) (Ur n.data n.Y5 keep) JG else Yk i false [] 0 JG) else n
def Ln(l:List Nat)(n:Int):List Nat:=if YT l n then l.take (Tb l).2 else []
def iR(l:List Nat)(n:Int):Int:=if YT l n then (if ((Tb l).2:Int)<n then ((Tb l).2:Int) else n) else 0
def started(i:Nat)(n:Nd):Nd:=
 if n.up=true then n else Yk i true (Ln n.data n.Y5) (iR n.data n.Y5) (if YT (Ln n.data n.Y5) (iR n.data n.Y5) then (Tb (Ln n.data n.Y5)).1 else JG)
structure Ac where
 ZH:Int
 ZX:Nat
 at':Nat
 keep:Int
 data:List Nat
def Wd.set(w:Wd)(i:Nat)(n:Nd):Wd:={ w with Zc:=fun j=>if j=i then n else w.Zc j }
def Wd.out(w:Wd)(i:Nat)(o:Out):Wd:={ Zc:=fun j=>if j=i then o.n else w.Zc j,Zm:=w.Zm++o.ls,YA:=w.YA,ZG:=w.ZG++o.ts }
def JP(w:Wd)(l:Yn):Wd:=if (w.Zc l.to.toNat).up=true then w.set l.to.toNat { w.Zc l.to.toNat with Zf:=(w.Zc l.to.toNat).Zf++[l] } else w
def pick(w:Wd)(at':Nat)(comes stays:Bool):Wd:=
 match w.Zm[at'%w.Zm.length]? with
 | none=>w
 | some l=>if comes=true then JP (if stays=true then w else { w with Zm:=w.Zm.eraseIdx (at'%w.Zm.length) }) l else (if stays=true then w else { w with Zm:=w.Zm.eraseIdx (at'%w.Zm.length) })
def Of(n:Nd)(x:Cm):Nd:=if x∈n.Zq then n else { n with Zq:=n.Zq++[x] }
def Wq(w:Wd)(i:Nat)(data:List Nat):Wd:=
 if (w.Zc i).up=true then
  (if Xg data (w.Zc i).ZI.length≠0 then { w with YA:=fun j=>if j=i then w.YA i+1 else w.YA j }
  else if J2 data (w.Zc i).ZI.length∈(w.Zc i).ZI then
   { w with ZG:=w.ZG++[⟨(w.Zc i).me,(J2 data (w.Zc i).ZI.length).c,(J2 data (w.Zc i).ZI.length).s,Md (w.Zc i).store (J2 data (w.Zc i).ZI.length),GN (w.Zc i).store (J2 data (w.Zc i).ZI.length)⟩] }
  else w.set i (Of (add (w.Zc i) (J2 data (w.Zc i).ZI.length)) (J2 data (w.Zc i).ZI.length)))
 else w
def act(w:Wd)(a:Ac):Wd:=
 if a.ZH=1 then Wq w a.ZX a.data
 else if a.ZH=2 then w.set a.ZX (lead (w.Zc a.ZX))
 else if a.ZH=3 then w.out a.ZX (step (w.Zc a.ZX))
 else if a.ZH=4\/a.ZH=5\/a.ZH=6 then pick w a.at' (decide (a.ZH≠5)) (decide (a.ZH=6))
 else if a.ZH=7 then w.Zm.foldl JP { w with Zm:=[] }
 else if a.ZH=8 then w.set a.ZX (Yo a.ZX (w.Zc a.ZX) a.keep)
 else w.set a.ZX (started a.ZX (w.Zc a.ZX))
def Ud:Wd:=⟨fun i=>Yk i true [] 0 JG,[],fun _=>0,[]⟩
def TG(l:List Ac):Wd:=l.foldl act Ud
set_option maxRecDepth 100000
@[go_sem] theorem S8:kj au 68=U 49:=sV
@[go_sem] theorem Io:kj au 123=U 64:=sV
@[go_sem] theorem GP:kj au 124=U 175:=sV
@[go_sem] theorem Dq:kj au 175=U 176:=sV
@[go_sem] theorem yD:kj au 156=U 155:=sV
@[go_sem] theorem Lo:tzv au 49=U (aU dQ.C.toArray):=sV
@[go_sem] theorem yE:tzv au 64=U (ak al 0 0):=sV
@[go_sem] theorem Dr:tzv au 175=U (.map al):=sV
@[go_sem] theorem ZeU:tzv au 176=U (aU #[]):=sV
@[go_sem] theorem Zlz:tzv au 155=U .nilFunc:=sV
@[go_sem] theorem ZGc:tkp au 67=true:=sV
@[go_sem] theorem ZGd:tkm au 175=true:=sV
@[go_sem] theorem ZGe:tkf au 1=true:=sV
inductive Tg where
 | world
 | Zc
 | Zm
 | ZG
 | ZX (i:Nat)
 | Zi (i:Nat)
 | ZI (i:Nat)
 | ZB (i:Nat)
 | Zq (i:Nat)
 | Zf (i:Nat)
 | Zh (i:Nat)
 | ZL (i:Nat)
 | Yj (i:Nat)
 | YY (i:Nat)
 | RN (i:Nat) (s:Int)
 | Xz (i:Nat)
variable{S:Tg->Prop}
def Tg.of:Tg->Option Nat
 | .world=>al
 | .Zc=>al
 | .Zm=>al
 | .ZG=>al
 | .ZX i=>U i
 | .Zi i=>U i
 | .ZI i=>U i
 | .ZB i=>U i
 | .Zq i=>U i
 | .Zf i=>U i
 | .Zh i=>U i
 | .ZL i=>U i
 | .Yj i=>U i
 | .YY i=>U i
 | .RN i _=>U i
 | .Xz i=>U i
abbrev Ow:=Nat->Option Tg
variable{o o':Ow}
structure Im(o:Ow)(n:Nat)(h:Hp)(v:am)(m:Nat)(cs:List am):Prop where
 sl:Sl n h v m cs
 fits:∃p c,v=ak p m c/\m<=c
 free:∀b,Ya v=U b->b<h.size/\o b=al
theorem Im.keep{n m:Nat}(s:Im o n h v m cs)(k:Kp S o h o' h'):Im o' n h' v m cs:=by
 obtain⟨⟨p,c,rfl,hl,hcc⟩,⟨p',c',he,hm⟩,hf⟩:=s;simp only[Value.slice.injEq,true_and]at he;obtain⟨rfl,rfl⟩:=he;have hf':∀b,Ya (ak p m c)=U b->b<h.size/\o b=al/\h'[b]? = h[b]? /\ o' b=al:=fun b hb=>by
  obtain⟨h1,h2⟩:=hf b hb;obtain⟨h3,h4⟩:=k.keep b h1 fun t ht=>by rw[h2]at ht;cases ht
  exact⟨h1,h2,h3,by rw[h4,h2]⟩
 refine⟨⟨p,c,rfl,hl,fun Xb=>?_⟩,⟨p,c,rfl,hm⟩,fun b hb=>⟨bR (hf' b hb).1 k.size,(hf' b hb).2.2.2⟩⟩;obtain⟨b,off,rfl,XH⟩:=hcc Xb;have Ca:c≠0:=by
  intro e;have:m=0:=mD;subst this;exact Xb (List.eq_nil_of_length_eq_zero (by simpa using hl))
 have hb:Ya (ak (U ⟨b,off,al⟩) m c)=U b:=by simp[Ya,Ca]
 refine⟨b,off,rfl,fun i hi=>?_⟩;have:=XH i hi;unfold hc at this ⊢;rw[(hf' b hb).2.2.1];exact this
theorem Im.Ws{B n m:Nat}{E:TypeId}(s:UK B E n h v m cs)(hd:∀b,B<=b->o b=al):Im o n h v m cs:=by
 refine⟨s.sl,?_,fun b hb=>?_⟩
 .rcases s with⟨⟨p,rfl⟩,rfl,_⟩|⟨b,cap,sp,_,rfl,_,_,_,hm⟩
  .exact⟨p,0,rfl,a3 _⟩
  .exact⟨_,cap,rfl,hm⟩
 .exact⟨s.lt b hb,hd b (s.ZZ b hb)⟩
theorem Im.nil(o:Ow)(n:Nat)(h:Hp)(p:Option Addr):Im o n h (ak p 0 0) 0 []:=
 ⟨⟨p,0,rfl,sW,fun Xb=>absurd rfl Xb⟩,⟨p,0,rfl,a3 _⟩,fun b hb=>by cases p<;>simp[Ya]at hb⟩
def Tw(o:Ow)(h:Hp)(v:am)(l:List Vt):Prop:=Im o 8 h v (O l) (ZT Zv l)
def S9(o:Ow)(h:Hp)(v:am)(l:List Nat):Prop:=Im o 1 h v (O l) (l.map bv)/\∀x∈l,x<256
theorem Tw.ts{l:List Vt}(s:Tw o h v l):Ts Zv 8 h v l:=⟨Im.sl s⟩
theorem S9.bs{l:List Nat}(s:S9 o h v l):Bs h v l:=⟨s.1.sl,s.2⟩
theorem Tw.keep{l:List Vt}(s:Tw o h v l)(k:Kp S o h o' h'):Tw o' h' v l:=Im.keep s k
theorem S9.keep{l:List Nat}(s:S9 o h v l)(k:Kp S o h o' h'):S9 o' h' v l:=⟨s.1.keep k,s.2⟩
def XN(l:Yn)(w:am):List am:=[Q J l.ZH,Q J l.JA,Q J l.to,Q J l.b.r,Q J l.b.n,Q J l.v.Zs,Q J l.v.b.r,Q J l.v.b.n,Q J l.v.k,Q J l.v.c,Q J l.v.s,Q J l.v.nm,Q J l.v.v,w]
def Ip(x:Yn × am):List am:=XN x.1 x.2
def GQ(t:OS):List am:=[Q J t.ZX,Q J t.c,Q J t.s,Q J t.code,Q J t.val]
def Zz(b:Nat):am:=aF (U ⟨b,0,al⟩)
def Sc(x:Cm):am:=aU x.C.toArray
def US(o:Ow)(t:Tg)(h:Hp)(v:am)(l:List Cm):Prop:=Xm o t 49 5 h v (O l) (ZT Un.C l)
def We(o:Ow)(t:Tg)(h:Hp)(v:am)(l:List Yn):Prop:=
 ∃xs:List (Yn × am),xs.map (·.1)=l/\Xm o t 99 14 h v (O xs) (ZT Ip xs)/\∀x∈xs,Tw o h x.2 x.1.vs
theorem US.keep{t:Tg}(s:US o t h v l)(k:Kp S o h o' h')(hn:¬S t):US o' t h' v l:=Xm.keep s k hn
theorem We.keep{t:Tg}{l:List Yn}(s:We o t h v l)(k:Kp S o h o' h')(hn:¬S t):We o' t h' v l:=by
 obtain⟨xs,h1,h2,h3⟩:=s;exact⟨xs,h1,h2.keep k hn,fun x hx=>(h3 x hx).keep k⟩
def UF(o:Ow)(t:Tg)(h:Hp)(b:Nat)(l:List (Int × am)):Prop:=o b=U t/\h[b]? = U (Jk l)
theorem UF.keep{t:Tg}{b:Nat}{l:List (Int × am)}(s:UF o t h b l)(k:Kp S o h o' h')(hn:¬S t):UF o' t h' b l:=by
 have Nq:∀u,o b=U u->¬S u:=fun u hu=>by rw[s.1]at hu;cases hu;exact hn
 exact⟨by rw[k.Zr s.2 Nq,s.1],k.get s.2 Nq⟩
def Wf(o:Ow)(t:Tg)(h:Hp)(b:Nat)(x:Obj):Prop:=o b=U t/\h[b]? = U x
theorem Wf.keep{t:Tg}{b:Nat}{x:Obj}(s:Wf o t h b x)(k:Kp S o h o' h')(hn:¬S t):Wf o' t h' b x:=by
 have Nq:∀u,o b=U u->¬S u:=fun u hu=>by rw[s.1]at hu;cases hu;exact hn
 exact⟨by rw[k.Zr s.2 Nq,s.1],k.get s.2 Nq⟩
def Z9(o:Ow)(h:Hp)(b:Nat)(x:Obj):Prop:=o b=al/\h[b]? = U x
theorem Z9.keep{b:Nat}{x:Obj}(s:Z9 o h b x)(k:Kp S o h o' h'):Z9 o' h' b x:=(k.free s.2 s.1).symm
def Wt(o:Ow)(h:Hp)(pv:List (Int × am))(pr:List (Int × List Vt)):Prop:=AE (fun x y=>x.1=y.1/\Tw o h x.2 y.2) pv pr
theorem Wt.keep{pv:List (Int × am)}{pr:List (Int × List Vt)}(s:Wt o h pv pr)(k:Kp S o h o' h'):Wt o' h' pv pr:=by
 induction s with
 | nil=>exact .nil
 | cons a _ ih=>exact .cons ⟨a.1,a.2.keep k⟩ ih
def IV(l:List (Int × Unit)):List (Int × am):=Vh (fun _=>aU #[]) l
def Wg(o:Ow)(i:Nat)(h:Hp)(sv:List (Int × Nat))(vt:List (Int × List (Int × Unit))):Prop:=AE (fun x y=>x.1=y.1/\UF o (.RN i y.1) h x.2 (IV y.2)) sv vt
theorem Wg.keep{i:Nat}{sv:List (Int × Nat)}{vt:List (Int × List (Int × Unit))}(s:Wg o i h sv vt)(k:Kp S o h o' h')(hn:∀s,¬S (.RN i s)):Wg o' i h' sv vt:=by
 induction s with
 | nil=>exact .nil
 | cons a _ ih=>exact .cons ⟨a.1,a.2.keep k (hn _)⟩ ih
def mpV(b:Nat):am:=.map (U b)
structure RA where
 rb:Nat
 pb:Nat
 qb:Nat
 vb:Nat
 pv:List (Int × am)
 sv:List (Int × Nat)
def iS(r:XM)(a:RA):List am:=[Q J r.b.r,Q J r.b.n,.map (U a.pb),aw r.Xf,.map (U a.qb),.map (U a.vb)]
structure XA(o:Ow)(i:Nat)(h:Hp)(a:RA)(r:XM):Prop where
 ZZ:Wf o (.Zh i) h a.rb (Z (iS r a).toArray 126)
 ZL:UF o (.ZL i) h a.pb a.pv
 Og:Wt o h a.pv r.ZL
 Yj:UF o (.Yj i) h a.qb (Vh Sc r.Yj)
 YY:UF o (.YY i) h a.vb (Vh mpV a.sv)
 Su:Wg o i h a.sv r.YY
 keys:(a.sv.map (·.1)).Nodup
def JL(i:Nat)(t:Tg):Prop:=t=.Zh i\/t=.ZL i\/t=.Yj i\/t=.YY i\/∃s,t=.RN i s
theorem XA.keep{i:Nat}{a:RA}{r:XM}(s:XA o i h a r)(k:Kp S o h o' h')(hn:∀t,JL i t->¬S t):XA o' i h' a r:=
 ⟨s.ZZ.keep k (hn _ (.inl rfl)),s.ZL.keep k (hn _ (.inr (.inl rfl))),s.Og.keep k,s.Yj.keep k (hn _ (.inr (.inr (.inl rfl)))),s.YY.keep k (hn _ (.inr (.inr (.inr (.inl rfl))))),s.Su.keep k (fun s=>hn _ (.inr (.inr (.inr (.inr ⟨s,rfl⟩))))),s.keys⟩
def Me:Option RA->am
 | some a=>Zz a.rb
 | none=>aF al
def ZcS(o:Ow)(i:Nat)(h:Hp):Option RA->Option XM->Prop
 | some a,U r=>XA o i h a r
 | none,al=>True
 | _,_=>False
theorem ZcS.keep{i:Nat}{a:Option RA}{r:Option XM}(s:ZcS o i h a r)(k:Kp S o h o' h')(hn:∀t,JL i t->¬S t):ZcS o' i h' a r:=by
 cases a<;>cases r<;>first|exact s|exact XA.keep s k hn
def TH(f:FuncId)(l:List Nat):am:=.func (.func f) #[] (l.map Zz).toArray
def yF(o:Ow)(h:Hp)(wb nb:Nat)(v:am)(to:Int)(b:Yg)(vs:List Vt):Prop:=
 ∃b3 b4 b5 b7 l w5 w,v=TH 90 [b3,b4,b5,b7]/\Z9 o h b3 (Z [Zz wb].toArray 52)/\Z9 o h b4 (Z [Zz nb].toArray 59) /\
  Z9 o h b5 (Z (XN l w5).toArray 99)/\l.JA=to/\l.b=b/\Z9 o h b7 (Z [w].toArray 64)/\Tw o h w vs
def yG(o:Ow)(h:Hp)(wb nb:Nat)(v:am)(to:Int)(x:Vt):Prop:=
 ∃b3 b4 b5 l w5,v=TH 95 [b3,b4,b5]/\Z9 o h b3 (Z [Zz wb].toArray 52)/\Z9 o h b4 (Z [Zz nb].toArray 59) /\
  Z9 o h b5 (Z (XN l w5).toArray 99)/\l.JA=to/\l.v=x
theorem yF.keep{wb nb:Nat}{to:Int}{b:Yg}{vs:List Vt}(s:yF o h wb nb v to b vs)(k:Kp S o h o' h'):yF o' h' wb nb v to b vs:=by
 obtain⟨b3,b4,b5,b7,l,w5,w,h1,h2,h3,h4,h5,h6,h7,h8⟩:=s;exact⟨b3,b4,b5,b7,l,w5,w,h1,h2.keep k,h3.keep k,h4.keep k,h5,h6,h7.keep k,h8.keep k⟩
theorem yG.keep{wb nb:Nat}{to:Int}{x:Vt}(s:yG o h wb nb v to x)(k:Kp S o h o' h'):yG o' h' wb nb v to x:=by
 obtain⟨b3,b4,b5,l,w5,h1,h2,h3,h4,h5,h6⟩:=s;exact⟨b3,b4,b5,l,w5,h1,h2.keep k,h3.keep k,h4.keep k,h5,h6⟩
def Oh(o:Ow)(h:Hp)(b:Nat)(a:Qo):Prop:=∃w,Z9 o h b (Z (XC a.p w).toArray 66)/\Tw o h w a.l
theorem Oh.keep{b:Nat}{a:Qo}(s:Oh o h b a)(k:Kp S o h o' h'):Oh o' h' b a:=by
 obtain⟨w,h1,h2⟩:=s;exact⟨w,h1.keep k,h2.keep k⟩
def ZlA(o:Ow)(h:Hp)(i nb:Nat)(ra:Option RA)(v:am)(a:Qo)(vs:List Vt)(cur:Bool):Prop:=
 ∃b6 b4 b7 b5 w rb,v=TH 99 [b6,b4,b7,b5]/\Oh o h b6 a/\Z9 o h b4 (Z [Zz nb].toArray 59)/\Z9 o h b7 (Z [w].toArray 64)/\Tw o h w vs /\
  Z9 o h b5 (Z [Zz rb].toArray 67) /\
  (if cur=true then ∃a,ra=U a/\a.rb=rb else ∃cs pb pv,Wf o (.Xz i) h rb (Z cs 126)/\cs[2]? = U (.map (U pb))/\UF o (.Xz i) h pb pv)
def WQ(o:Ow)(h:Hp)(wb i nb:Nat)(ra:Option RA):am->Option Ny->Prop
 | v,al=>v=.nilFunc
 | v,U (.Q8 a to b vs)=>∃b6 b4 b9 u,v=TH 92 [b6,b4,b9]/\Oh o h b6 a/\Z9 o h b4 (Z [Zz nb].toArray 59)/\Z9 o h b9 (Z [u].toArray 1)/\yF o h wb nb u to b vs
 | v,U (.Wo a to x)=>∃b6 b4 b9 u,v=TH 98 [b6,b4,b9]/\Oh o h b6 a/\Z9 o h b4 (Z [Zz nb].toArray 59)/\Z9 o h b9 (Z [u].toArray 1)/\yG o h wb nb u to x
 | v,U (.Zr a vs cur)=>ZlA o h i nb ra v a vs cur
theorem WQ.keep{wb i nb:Nat}{ra:Option RA}{p:Option Ny}(s:WQ o h wb i nb ra v p)(k:Kp S o h o' h')(hn:¬S (.Xz i)):WQ o' h' wb i nb ra v p:=by
 match p,s with
 | none,s=>exact s
 | some (.Q8 a to b vs),⟨b6,b4,b9,u,h1,h2,h3,h4,h5⟩=>exact⟨b6,b4,b9,u,h1,h2.keep k,h3.keep k,h4.keep k,h5.keep k⟩
 | some (.Wo a to x),⟨b6,b4,b9,u,h1,h2,h3,h4,h5⟩=>exact⟨b6,b4,b9,u,h1,h2.keep k,h3.keep k,h4.keep k,h5.keep k⟩
 | some (.Zr a vs cur),⟨b6,b4,b7,b5,w,rb,h1,h2,h3,h4,h5,h6,h7⟩=>
  refine⟨b6,b4,b7,b5,w,rb,h1,h2.keep k,h3.keep k,h4.keep k,h5.keep k,h6.keep k,?_⟩
  cases cur with
  | true=>exact h7
  | false=>
   obtain⟨cs,pb,pv,g1,g2,g3⟩:=h7;exact⟨cs,pb,pv,g1.keep k hn,g2,g3.keep k hn⟩
structure NA where
 data:am
 XO:am
 Zh:Option RA
 Zi:Nat
 ZI:am
 ZB:am
 Zq:am
 Zf:am
 Zp:am
def Vo(n:Nd)(a:NA):List am:=[Q J n.me,aw n.up,a.data,Q J n.Y5,Q J n.Zr.p.r,Q J n.Zr.p.n,a.XO,Q J n.Ye.r,Q J n.Ye.n,Me a.Zh,.map (U a.Zi),a.ZI]++(n.store++[a.ZB,a.Zq,a.Zf,a.Zp,Q J n.Yw])
def Ja(n:Nd)(a:NA):Obj:=Z (Vo n a).toArray 77
structure Lp(cs:List am):Prop where
 fit:Xj Qi cs=true
 num:∀i,i<32->nth cs i=U (Q J (ci cs i))
 yes:∀i,32<=i->i<40->nth cs i=U (aw (cb cs i))
structure Ym(o:Ow)(h:Hp)(wb i nb:Nat)(a:NA)(n:Nd):Prop where
 data:S9 o h a.data n.data
 XO:Tw o h a.XO n.Zr.l
 Zh:ZcS o i h a.Zh n.Zh
 Zi:UF o (.Zi i) h a.Zi (Vh Sc n.Zi)
 ZI:US o (.ZI i) h a.ZI n.ZI
 ZB:US o (.ZB i) h a.ZB n.ZB
 Zq:US o (.Zq i) h a.Zq n.Zq
 Zf:We o (.Zf i) h a.Zf n.Zf
 Zp:WQ o h wb i nb a.Zh a.Zp n.Zp
 store:Lp n.store
structure Z6(o:Ow)(h:Hp)(wb i nb:Nat)(a:NA)(n:Nd):Prop where
 ZZ:Wf o (.ZX i) h nb (Ja n a)
 pt:Ym o h wb i nb a n
theorem Kj{i:Nat}{t:Tg}(h:JL i t):t.of=U i:=by
 rcases h with rfl|rfl|rfl|rfl|⟨s,rfl⟩<;>rfl
section
variable {S:Tg->Prop} {o o':Ow} {h h':Hp} {wb i nb:Nat} {a:NA} {n:Nd}
theorem Ym.keep(s:Ym o h wb i nb a n)(k:Kp S o h o' h')(hn:∀t,S t->t.of≠U i\/t=.ZX i):Ym o' h' wb i nb a n:=by
 have q:∀t:Tg,t.of=U i->t ≠ .ZX i->¬S t:=fun t ht Xb hs=>(hn t hs).elim (fun q=>q ht) Xb;exact⟨s.data.keep k,s.XO.keep k,s.Zh.keep k (fun t ht=>q t (Kj ht) (by rcases ht with rfl|rfl|rfl|rfl|⟨z,rfl⟩<;>intro e<;>cases e)),s.Zi.keep k (q _ rfl tP),s.ZI.keep k (q _ rfl tP),s.ZB.keep k (q _ rfl tP),s.Zq.keep k (q _ rfl tP),s.Zf.keep k (q _ rfl tP),s.Zp.keep k (q _ rfl tP),s.store⟩
theorem Z6.keep(s:Z6 o h wb i nb a n)(k:Kp S o h o' h')(hn:∀t,S t->t.of≠U i):Z6 o' h' wb i nb a n:=
 ⟨s.ZZ.keep k fun q=>hn _ q rfl,s.pt.keep k fun t ht=>.inl (hn t ht)⟩
theorem Ym.put(s:Ym o h wb i nb a n)(d:WY o h){x:Obj}(b:Wf o (.ZX i) h nb x):Z6 o (h.setIfInBounds nb (Ja n a)) wb i nb a n:=
 ⟨⟨b.1,ZQ b.2⟩,s.keep ((Kp.refl d (fun t=>t=.ZX i)).set b.1 rfl _) fun t ht=>.inr ht⟩
theorem Ym.write(s:Ym o h wb i nb a n)(d:WY o h){x:Obj}(b:Wf o (.ZX i) h nb x){e:Option Hp}(w:e=U (h.setIfInBounds nb (Ja n a))):∃g,e=U g/\Z6 o g wb i nb a n/\Kp (fun t=>t=.ZX i) o h o g:=
 ⟨_,w,s.put d b,(Kp.refl d (fun t=>t=.ZX i)).set b.1 rfl _⟩
theorem Ym.Ds(s:Ym o h wb i nb a n)(k:Kp (fun t=>t=.ZB i) o h o' h')(hv:US o' (.ZB i) h' v l):Ym o' h' wb i nb { a with ZB:=v } { n with ZB:=l }:=
 ⟨s.data.keep k,s.XO.keep k,s.Zh.keep k (fun t ht=>by rcases ht with rfl|rfl|rfl|rfl|⟨z,rfl⟩<;>intro e<;>cases e),s.Zi.keep k tP,s.ZI.keep k tP,hv,s.Zq.keep k tP,s.Zf.keep k tP,s.Zp.keep k tP,s.store⟩
theorem Ym.ZcT(s:Ym o h wb i nb a n)(k:Kp (fun t=>t=.ZI i) o h o' h')(hv:US o' (.ZI i) h' v l):Ym o' h' wb i nb { a with ZI:=v } { n with ZI:=l }:=
 ⟨s.data.keep k,s.XO.keep k,s.Zh.keep k (fun t ht=>by rcases ht with rfl|rfl|rfl|rfl|⟨z,rfl⟩<;>intro e<;>cases e),s.Zi.keep k tP,hv,s.ZB.keep k tP,s.Zq.keep k tP,s.Zf.keep k tP,s.Zp.keep k tP,s.store⟩
theorem Ym.Iq(s:Ym o h wb i nb a n)(k:Kp (fun t=>t=.Zq i) o h o' h')(hv:US o' (.Zq i) h' v l):Ym o' h' wb i nb { a with Zq:=v } { n with Zq:=l }:=
 ⟨s.data.keep k,s.XO.keep k,s.Zh.keep k (fun t ht=>by rcases ht with rfl|rfl|rfl|rfl|⟨z,rfl⟩<;>intro e<;>cases e),s.Zi.keep k tP,s.ZI.keep k tP,s.ZB.keep k tP,hv,s.Zf.keep k tP,s.Zp.keep k tP,s.store⟩
theorem Ym.pY(s:Ym o h wb i nb a n)(k:Kp (fun t=>t=.Zf i) o h o' h'){l:List Yn}(hv:We o' (.Zf i) h' v l):Ym o' h' wb i nb { a with Zf:=v } { n with Zf:=l }:=
 ⟨s.data.keep k,s.XO.keep k,s.Zh.keep k (fun t ht=>by rcases ht with rfl|rfl|rfl|rfl|⟨z,rfl⟩<;>intro e<;>cases e),s.Zi.keep k tP,s.ZI.keep k tP,s.ZB.keep k tP,s.Zq.keep k tP,hv,s.Zp.keep k tP,s.store⟩
theorem Ym.pZ(s:Ym o h wb i nb a n)(k:Kp (fun t=>t=.Zi i) o h o' h'){v:Nat}{l:List (Int × Cm)}(hv:UF o' (.Zi i) h' v (Vh Sc l)):Ym o' h' wb i nb { a with Zi:=v } { n with Zi:=l }:=
 ⟨s.data.keep k,s.XO.keep k,s.Zh.keep k (fun t ht=>by rcases ht with rfl|rfl|rfl|rfl|⟨z,rfl⟩<;>intro e<;>cases e),hv,s.ZI.keep k tP,s.ZB.keep k tP,s.Zq.keep k tP,s.Zf.keep k tP,s.Zp.keep k tP,s.store⟩
theorem Ym.UG(s:Ym o h wb i nb a n)(k:Kp (JL i) o h o' h'){ra ra':RA}{r':XM}(hr:a.Zh=U ra)(iU:ra'.rb=ra.rb)(hv:XA o' i h' ra' r'):Ym o' h' wb i nb { a with Zh:=U ra' } { n with Zh:=U r' }:=by
 have q:∀t,t.of=U i->(¬ ∃u,t=u/\JL i u)->¬JL i t:=fun t _ h2 h3=>h2 ⟨t,rfl,h3⟩;have e:∀t:Tg,(t=.Zi i\/t=.ZI i\/t=.ZB i\/t=.Zq i\/t=.Zf i\/t=.Xz i)->¬JL i t:=by
  intro t ht hr;rcases ht with rfl|rfl|rfl|rfl|rfl|rfl<;>rcases hr with e|e|e|e|⟨s,e⟩<;>cases e
 refine⟨s.data.keep k,s.XO.keep k,hv,s.Zi.keep k (e _ sW),s.ZI.keep k (e _ sW),s.ZB.keep k (e _ sW),s.Zq.keep k (e _ sW),s.Zf.keep k (e _ sW),?_,s.store⟩;have hp:=s.Zp.keep k (e _ sW);show WQ o' h' wb i nb (U ra') a.Zp n.Zp;rw[hr]at hp
 match hn:n.Zp,hp with
 | none,hp=>exact hp
 | some (.Q8 _ _ _ _),hp=>exact hp
 | some (.Wo _ _ _),hp=>exact hp
 | some (.Zr _ _ cur),⟨b6,b4,b7,b5,w,rb,h1,h2,h3,h4,h5,h6,h7⟩=>
  refine⟨b6,b4,b7,b5,w,rb,h1,h2,h3,h4,h5,h6,?_⟩
  cases cur with
  | false=>exact h7
  | true=>
   obtain⟨c,hc,hcr⟩:=h7;obtain rfl:=Option.some.inj hc;exact⟨ra',rfl,iU.trans hcr⟩
end
structure WA where
 Zc:am
 Zm:am
 ZG:am
def X6(YA:Nat->Int)(a:WA):List am:=[a.Zc,a.Zm,Q J 0,aw false,aw false,aw false,aw false,aw false,ak al 0 0,Q J (YA 0),Q J (YA 1),Q J (YA 2),Q J (YA 3),Q J (YA 4),a.ZG]
structure Z0(o:Ow)(h:Hp)(wb:Nat)(nb:Nat->Nat)(a:WA)(fl:List Yn)(YA:Nat->Int)(ZG:List OS):Prop where
 ZZ:Wf o .world h wb (Z (X6 YA a).toArray 58)
 Zc:Xm o .Zc 59 1 h a.Zc 5 [Zz (nb 0),Zz (nb 1),Zz (nb 2),Zz (nb 3),Zz (nb 4)]
 Zm:We o .Zm h a.Zm fl
 ZG:Xm o .ZG 120 5 h a.ZG (O ZG) (ZT GQ ZG)
theorem Z0.keep{wb:Nat}{nb:Nat->Nat}{a:WA}{fl:List Yn}{YA:Nat->Int}{ZG:List OS}(s:Z0 o h wb nb a fl YA ZG)(k:Kp S o h o' h')(hn:∀t,S t->t.of≠al):Z0 o' h' wb nb a fl YA ZG:=
 ⟨s.ZZ.keep k fun q=>hn _ q rfl,s.Zc.keep k fun q=>hn _ q rfl,s.Zm.keep k fun q=>hn _ q rfl,s.ZG.keep k fun q=>hn _ q rfl⟩
def UN(t:Tg):Prop:=False
section
variable {S:Tg->Prop} {o o':Ow} {h h':Hp}
theorem ZU(d:WY o h)(b:Zk h.size h h'):Kp UN o h o h':=Kp.H8 d b _
theorem ZY(k:Kp UN o h o' h'):Kp S o h o' h':=k.mono fun _ q=>q.elim
theorem Z6.Zo{wb i nb:Nat}{a:NA}{n:Nd}(s:Z6 o h wb i nb a n)(k:Kp UN o h o' h'):Z6 o' h' wb i nb a n:=s.keep k fun _ q=>q.elim
theorem Z0.Zo{wb:Nat}{nb:Nat->Nat}{a:WA}{fl:List Yn}{YA:Nat->Int}{ZG:List OS}(s:Z0 o h wb nb a fl YA ZG)(k:Kp UN o h o' h'):Z0 o' h' wb nb a fl YA ZG:=s.keep k fun _ q=>q.elim
theorem Yv(d:WY o h)(x:Obj):Kp UN o h o (h.push x):=(Kp.refl d _).push x
end
structure dS(o:Ow)(h:Hp):Prop where
 tk:Tk h
 tn:BE 0 niv Pg h
 fk:o 1=al
 fn:o 0=al
theorem C0{g:Nat}{f:Nat->am}{l:List Nat}(t:BE g f l h)(hf:o g=al)(k:Kp S o h o' h'):BE g f l h'/\o' g=al:=by
 obtain⟨h1,h2⟩:=k.keep g t.1 fun t ht=>by rw[hf]at ht;cases ht
 refine⟨⟨bR t.1 k.size,fun i hi=>?_⟩,by rw[h2,hf]⟩;have:=t.2 i hi;unfold hc at this ⊢;rw[h1];exact this
theorem dS.keep(t:dS o h)(k:Kp S o h o' h'):dS o' h':=
 ⟨(C0 t.tk t.fk k).1,(C0 t.tn t.fn k).1,(C0 t.tk t.fk k).2,(C0 t.tn t.fn k).2⟩
theorem Lp.len(s:Lp cs):(O cs)=40:=by
 have:=XD s.fit;rw[this];rfl
theorem Lp.one(s:Lp cs):cs.all YN=true:=HX s.fit
theorem yH(a:Option RA):YN (Me a)=true:=by cases a<;>rfl
section
variable {h:Hp} {nb:Nat} {n:Nd} {a:NA}
structure ZgS(h:Hp)(nb:Nat)(n:Nd)(a:NA):Prop where
 me:hc h ⟨nb,0,al⟩=U (Q J n.me)
 up:hc h ⟨nb,1,al⟩=U (aw n.up)
 tape:rd h ⟨nb,2,al⟩ 2=U [a.data,Q J n.Y5]
 Zr:rd h ⟨nb,4,al⟩ 3=U [Q J n.Zr.p.r,Q J n.Zr.p.n,a.XO]
 bj:rd h ⟨nb,4,al⟩ 2=U [Q J n.Zr.p.r,Q J n.Zr.p.n]
 Zt9:hc h ⟨nb,4,al⟩=U (Q J n.Zr.p.r)
 ZGg:hc h ⟨nb,5,al⟩=U (Q J n.Zr.p.n)
 XO:hc h ⟨nb,6,al⟩=U a.XO
 Ye:rd h ⟨nb,7,al⟩ 2=U [Q J n.Ye.r,Q J n.Ye.n]
 ZgT:hc h ⟨nb,7,al⟩=U (Q J n.Ye.r)
 Zh:hc h ⟨nb,9,al⟩=U (Me a.Zh)
 Zi:hc h ⟨nb,10,al⟩=U (.map (U a.Zi))
 ZI:hc h ⟨nb,11,al⟩=U a.ZI
 store:rd h ⟨nb,12,al⟩ 40=U n.store
 ZB:hc h ⟨nb,52,al⟩=U a.ZB
 Zq:hc h ⟨nb,53,al⟩=U a.Zq
 Zf:hc h ⟨nb,54,al⟩=U a.Zf
 Zp:hc h ⟨nb,55,al⟩=U a.Zp
 Yw:hc h ⟨nb,56,al⟩=U (Q J n.Yw)
theorem Dt(hs:(O n.store)=40):(Vo n a).length=57:=by
 unfold Vo;rw[an,an,hs];rfl
theorem Oi(hs:(O n.store)=40)(k:Nat):nth (Vo n a) (52+k)=nth [a.ZB,a.Zq,a.Zf,a.Zp,Q J n.Yw] k:=by
 unfold Vo;rw[Y7,Y7,bf vI,bf vI]
 congr 1
 simp;omega
theorem ZS(H:h[nb]? = U (Ja n a))(hs:(O n.store)=40):ZgS h nb n a:=by
 have l57:=Dt (a:=a) hs;have c:∀k,hc h ⟨nb,k,al⟩=nth (Vo n a) k:=fun k=>Zn H;have r:∀k m,k+m<=57->rd h ⟨nb,k,al⟩ m=U (((Vo n a).drop k).take m):=fun k m hk=>YI H (by rw[l57];exact hk);refine⟨c 0,c 1,r 2 2 mD,r 4 3 mD,r 4 2 mD,c 4,c 5,c 6,r 7 2 mD,c 7,c 9,c 10,c 11,?_,(c 52).trans (Oi hs 0),(c 53).trans (Oi hs 1),(c 54).trans (Oi hs 2),(c 55).trans (Oi hs 3),(c 56).trans (Oi hs 4)⟩;rw[r 12 40 mD]
 congr 1
 unfold Vo;rw[List.drop_append_of_le_length sW];simp only[List.drop_succ_cons,List.drop_nil,List.drop_zero,bo];rw[<-hs,List.take_left'];rfl
structure ZgU(h:Hp)(nb:Nat)(n:Nd)(a:NA):Prop where
 up:∀v,QF h ⟨nb,1,al⟩ (aw v)=U (h.setIfInBounds nb (Ja { n with up:=v } a))
 tape:∀d s,YN d=true->wr h ⟨nb,2,al⟩ [d,Q J s]=U (h.setIfInBounds nb (Ja { n with Y5:=s } { a with data:=d }))
 Zr:∀r k w,YN w=true->wr h ⟨nb,4,al⟩ [Q J r,Q J k,w]=U (h.setIfInBounds nb (Ja { n with Zr:=⟨⟨r,k⟩,n.Zr.l⟩ } { a with XO:=w }))
 Ye:∀r k,wr h ⟨nb,7,al⟩ [Q J r,Q J k]=U (h.setIfInBounds nb (Ja { n with Ye:=⟨r,k⟩ } a))
 Zh:∀b,QF h ⟨nb,9,al⟩ (Me b)=U (h.setIfInBounds nb (Ja n { a with Zh:=b }))
 ZI:∀v,YN v=true->QF h ⟨nb,11,al⟩ v=U (h.setIfInBounds nb (Ja n { a with ZI:=v }))
 store:∀cs:List am,(O cs)=40->cs.all YN=true->wr h ⟨nb,12,al⟩ cs=U (h.setIfInBounds nb (Ja { n with store:=cs } a))
 ZB:∀v,YN v=true->QF h ⟨nb,52,al⟩ v=U (h.setIfInBounds nb (Ja n { a with ZB:=v }))
 Zq:∀v,YN v=true->QF h ⟨nb,53,al⟩ v=U (h.setIfInBounds nb (Ja n { a with Zq:=v }))
 Zf:∀v,YN v=true->QF h ⟨nb,54,al⟩ v=U (h.setIfInBounds nb (Ja n { a with Zf:=v }))
 Zp:∀v,YN v=true->QF h ⟨nb,55,al⟩ v=U (h.setIfInBounds nb (Ja n { a with Zp:=v }))
 Yw:∀k,QF h ⟨nb,56,al⟩ (Q J k)=U (h.setIfInBounds nb (Ja { n with Yw:=k } a))
theorem set_tail(pre mid l:List am)(k:Nat)(v:am)(hk:(O pre)+(O mid)=52):(pre++(mid++l)).set (52+k) v=pre++(mid++l.set k v):=by
 rw[bz _ _ mD,bz _ _ mD]
 congr 3
 omega
theorem XF(H:h[nb]? = U (Ja n a))(hs:(O n.store)=40):ZgU h nb n a:=by
 have l57:=Dt (a:=a) hs;have w1:∀(k:Nat) (v:am) (n':Nd) (a':NA),k<57->YN v=true->(Vo n a).set k v=Vo n' a'->QF h ⟨nb,k,al⟩ v=U (h.setIfInBounds nb (Ja n' a')):=fun k v n' a' hk hv he=>by
  rw[Xk H,if_pos ⟨by rw[l57];exact hk,hv⟩,he];rfl
 have w:∀(k:Nat) (vs:List am) (n':Nd) (a':NA),k+(O vs)<=57->vs.all YN=true->Xd (Vo n a) k vs=Vo n' a'->wr h ⟨nb,k,al⟩ vs=U (h.setIfInBounds nb (Ja n' a')):=fun k vs n' a' hk hv he=>by
  rw[Yh H,if_pos ⟨by rw[l57];exact hk,hv⟩,he];rfl
 refine⟨fun v=>w1 _ _ _ _ mD rfl rfl,fun d s hd=>w _ _ _ _ sW (by rw[cg,hd];rfl) rfl,fun r k v hv=>w _ _ _ _ sW (by simp only[cg,hv];rfl) rfl,fun r k=>w _ _ _ _ sW (by simp[YN]) rfl,fun b=>w1 _ _ _ _ mD (yH b) rfl,fun v hv=>w1 _ _ _ _ mD hv rfl,fun cs hl X1=>w _ _ _ _ mD X1 ?_,
  fun v hv=>w1 _ _ _ _ mD hv ?_,fun v hv=>w1 _ _ _ _ mD hv ?_,fun v hv=>w1 _ _ _ _ mD hv ?_,fun v hv=>w1 _ _ _ _ mD hv ?_,fun k=>w1 _ _ _ _ mD rfl ?_⟩
 .unfold Vo;exact TV rfl (by rw[hl,hs])
 all_goals
  unfold Vo
  first
   | exact set_tail _ _ _ 0 _ (by rw[hs];rfl)
   | exact set_tail _ _ _ 1 _ (by rw[hs];rfl)
   | exact set_tail _ _ _ 2 _ (by rw[hs];rfl)
   | exact set_tail _ _ _ 3 _ (by rw[hs];rfl)
   | exact set_tail _ _ _ 4 _ (by rw[hs];rfl)
end
section
variable {h:Hp} {wb:Nat} {YA:Nat->Int} {a:WA}
structure ZcU(h:Hp)(wb:Nat)(YA:Nat->Int)(a:WA):Prop where
 Zc:hc h ⟨wb,0,al⟩=U a.Zc
 Zm:hc h ⟨wb,1,al⟩=U a.Zm
 ZG:hc h ⟨wb,14,al⟩=U a.ZG
 out:rd h ⟨wb,2,al⟩ 13=U [Q J 0,aw false,aw false,aw false,aw false,aw false,ak al 0 0,Q J (YA 0),Q J (YA 1),Q J (YA 2),Q J (YA 3),Q J (YA 4),a.ZG]
 C1:∀v,YN v=true->QF h ⟨wb,1,al⟩ v=U (h.setIfInBounds wb (Z (X6 YA { a with Zm:=v }).toArray 58))
 ZeV:∀v,YN v=true->QF h ⟨wb,14,al⟩ v=U (h.setIfInBounds wb (Z (X6 YA { a with ZG:=v }).toArray 58))
 ZgV:∀v,YN v=true->QF h ⟨wb,0,al⟩ v=U (h.setIfInBounds wb (Z (X6 YA { a with Zc:=v }).toArray 58))
theorem XP(H:h[wb]? = U (Z (X6 YA a).toArray 58)):ZcU h wb YA a:=by
 refine⟨Zn H,Zn H,Zn H,YI H (by simp[X6]),fun v hv=>?_,fun v hv=>?_,fun v hv=>?_⟩
 all_goals
  rw[Xk H,if_pos ⟨by simp[X6],hv⟩];rfl
end
theorem Im.ZN{n:Nat}{m:Nat}(s:Im o n h v m cs):∃p c,v=ak p m c:=by
 obtain⟨p,c,h,_⟩:=s.fits;exact⟨p,c,h⟩
theorem WH{α:Type}(enc:α->List am)(x:α):ZT enc [x]=enc x:=by simp[ZT]
def kX(t:Tg):Prop:=t=.world\/t=.Zm
theorem VE(h:Hp)(o:Ow)(wb nb:Nat)(YK:Nat->Nat)(me:Nat)(Xu:WA)(fl:List Yn)(YA:Nat->Int)(ZG:List OS)(to:Int)(l:Yn)(w:am)(d:WY o h)(W:Z0 o h wb YK Xu fl YA ZG)(Hj:hc h ⟨nb,0,al⟩=U (Q J me))(Vg:nb<h.size)(iv:Tw o h w l.vs)(Xa:(O fl)<=1000000000000):
  Zg au T 76 #[Zz wb,Zz nb,Q J to,aU (XN l w).toArray] h fun v' h'=>∃o' Js,Kp kX o h o' h'/\(∀b,b<h.size->o' b=o b)/\Z0 o' h' wb YK Js (fl++[⟨l.ZH,me,to,l.b,l.v,l.vs⟩]) YA ZG:=by
 obtain⟨p,c,hw⟩:=iv.ZN;have X1:YN w=true:=by rw[hw];rfl
 have C3:=Za W.ZZ.2;have R0:=XP W.ZZ.2;refine Zg.XK [_,_,_,_] Tryz.func76 ?_;unfold Zz XN;have e1:nb≠h.size:=mD;have e2:wb≠h.size:=mD;simp only[go_sem,OD,e1,Hj];refine VS.z (h.size+1) [7,10] (.p 0 (.p 1 (.p 2 (.p 3 (.q 4 (.q 5 (.s 6 (.w 7 (.p 8 (.p 9 (.w 10 .nil))))))))))) mixed sV ?_;simp only[go_sem,OD,kh,e1,e2,Hj,R0.Zm,C3];obtain⟨h1,Xp⟩:=ZP (h.push (Z (XN ⟨l.ZH,me,to,l.b,l.v,l.vs⟩ w).toArray 99):Hp);have s1:h1.size=h.size+1:=by rw[Xp];simp
 obtain⟨h2,Tv⟩:=ZP (h1.push (Z (XN ⟨l.ZH,me,to,l.b,l.v,l.vs⟩ w).toArray 99):Hp);have ee:((h.push (Z (XN ⟨l.ZH,me,to,l.b,l.v,l.vs⟩ w).toArray 99)).push (Z (XN ⟨l.ZH,me,to,l.b,l.v,l.vs⟩ w).toArray 99))=h2:=by rw[Tv,Xp]
 unfold XN at ee;simp only at ee;refine⟨Zk.push sW _,?_⟩;rw[ee];have k2:Kp (fun _=>False) o h o h2:=by rw[Tv,Xp];exact ((Kp.refl d _).push _).push _
 have W2:=W.keep k2 (fun _ q=>q.elim);have tC:=iv.keep k2;obtain⟨xs,UO,NX,hO⟩:=W2.Zm;have CQ:(O xs)=(O fl):=by rw[<-UO,List.length_map]
 have src:Sl 14 h2 (ak (U ⟨h.size+1,0,al⟩) 1 1) 1 (XN ⟨l.ZH,me,to,l.b,l.v,l.vs⟩ w):=by
  rw[Tv,<-s1];exact Sl.made (by simp[XN]) 1
 refine Qg (E:=99) (n:=14) (bytes:=128) (k:=1) ko b0 ZfW Zb3 rfl Zj3 NX k2.Yt src (by rw[XN,a8];intro x hx;simp at hx;rcases hx with rfl|rfl|rfl|rfl|rfl|rfl|rfl|rfl|rfl|rfl|rfl|rfl|rfl|rfl<;>first|rfl|exact X1) mD mD ?_;intro v' o3 h3 w3 k3 q3;have b3:=W2.ZZ.keep k3 aag;have R3:=XP b3.2;obtain⟨p3,c3,rfl,_⟩:=w3.ZN;have hw3:=Za b3.2;have e3:=R3.C1 (ak p3 ((O xs)+1) c3) rfl;simp only[go_sem,e3];have k4:Kp kX o h o3 h3:=(k2.mono fun _ q=>q.elim).trans (k3.mono fun u q=>.inr q);have k5:=k4.set b3.1 (.inl rfl) (Z (X6 YA { Xu with Zm:=ak p3 ((O xs)+1) c3 }).toArray 58);have kk:Kp (fun u=>u=.world) o3 h3 o3 (h3.setIfInBounds wb (Z (X6 YA { Xu with Zm:=ak p3 ((O xs)+1) c3 }).toArray 58)):=(Kp.refl k3.Yt (fun u=>u=.world)).set b3.1 rfl _;refine⟨o3,{ Xu with Zm:=ak p3 ((O xs)+1) c3 },k5,fun b hb=>q3 b (by have:=k2.size;omega),⟨b3.1,ZQ b3.2⟩,(W2.Zc.keep k3 aag).keep kk aag,⟨xs++[(⟨l.ZH,me,to,l.b,l.v,l.vs⟩,w)],?_,?_,fun x hx=>?_⟩,(W2.ZG.keep k3 aag).keep kk aag⟩
 .rw[List.map_append,UO];rfl
 .have:=w3.keep kk aag;rw[YV,WH,an];exact this
 .rcases List.mem_append.1 hx with hx|hx
  .exact ((hO x hx).keep k3).keep kk
  .have:x=(⟨l.ZH,me,to,l.b,l.v,l.vs⟩,w):=by simpa using hx
   subst this;exact (tC.keep k3).keep kk
@[go_sem] theorem Zub(x:Cm):Xj [U J,U J,U J,U J,U J] x.C=true:=rfl
@[go_sem] theorem Zuc(x y:Cm):leq x.C y.C=decide (x=y):=by
 obtain⟨a,b,c,d,e⟩:=x;obtain⟨a',b',c',d',e'⟩:=y;unfold Un.C UL;rw[br];simp[leq,ceq,Un.mk.injEq]
@[go_sem] theorem Lq(x:Cm):x.C.length=5:=rfl
@[go_sem] theorem yI(x:Cm):x.C.all YN=true:=rfl
@[go_sem] theorem ZoW(x:Cm):Xd [Q J 0,Q J 0,Q J 0,Q J 0,Q J 0] 0 x.C=x.C:=rfl
theorem Jy(s:Ts Un.C 5 h v l):∃p c,v=ak p (O l) c/\(l≠[]->∃b o,p=U ⟨b,o,al⟩/\b<h.size/\∀i (hi:i<(O l)),rd h ⟨b,o+i*5,al⟩ 5=U (l[i]).C):=by
 obtain⟨p,c,hv,hh⟩:=s.open Lq KC;refine⟨p,c,hv,fun Xb=>?_⟩;obtain⟨b,o,h1,h2,h3⟩:=hh Xb;exact⟨b,o,h1,h2,fun i hi=>(h3 i hi).rd (by simp[Un.C,UL]) rfl⟩
def Ra(l:List Cm)(x:Cm):Int:=if x∈l then (l.idxOf x:Int) else -1
theorem yJ{x:Cm}{i:Nat}(hi:i<(O l))(he:l[i]=x)(hn:∀j (hj:j<(O l)),j<i->l[j]≠x):l.idxOf x=i:=by
 have hx:x∈l:=he▸bg hi;have h1:l.idxOf x<(O l):=a7 hx;have h2:l[l.idxOf x]=x:=bS h1;rcases Nat.lt_trichotomy (l.idxOf x) i with h|h|h
 .exact absurd h2 (hn _ h1 h)
 .exact h
 .have:=bk (p:=(· == x)) (xs:=l) (i:=i) h
  simp[he]at this
theorem kY{x:Cm}{i:Nat}(hi:i<(O l))(he:l[i]=x)(hn:∀j (hj:j<(O l)),j<i->l[j]≠x):Ra l x=i:=by
 unfold Ra;rw[if_pos (he▸bg hi),yJ hi he hn]
theorem Du{x:Cm}(hn:∀j (hj:j<(O l)),l[j]≠x):Ra l x = -1:=by
 unfold Ra;rw[if_neg fun hm=>by obtain⟨j,hj,he⟩:=bd hm;exact hn j hj he]
theorem Lr(l:List Cm)(x:Cm):0<=Ra l x↔x∈l:=by
 unfold Ra;split
 .rename_i h;exact⟨fun _=>h,fun _=>by omega⟩
 .rename_i h;exact⟨fun q=>by omega,fun q=>absurd q h⟩
theorem GR(h:Hp)(v:am)(l:List Cm)(x:Cm)(s:Ts Un.C 5 h v l)(hl:(O l)<=4611686018427387904):
  Zg au T 37 #[v,Sc x] h fun v' h'=>v'=Q J (Ra l x)/\Zk h.size h h':=by
 obtain⟨p,c,rfl,XH⟩:=Jy s;refine Zg.XK [_,_] Tryz.func37 ?_;unfold Sc;simp only[go_sem];obtain⟨h1,Xp⟩:=ZP (h.push (Z x.C.toArray 49):Hp);have b1:Zk h.size h h1:=by rw[Xp];exact Zk.push (a3 _) _
 have x1:h1[h.size]? = U (Z x.C.toArray 49):=by rw[Xp];exact Zd
 rw[<-Xp];clear Xp;refine VS.Yq (fun F g=>g=h1/\F 0=ak p (O l) c/\F 3=aF (U ⟨h.size,0,al⟩)/\F 7=Q J (O l)/\∃i:Nat,i<=(O l)/\F 8=Q J i/\∀j (hj:j<(O l)),j<i->l[j]≠x)
  (fun F _=>(O l)-(vi (F 8)).toNat) rfl ⟨rfl,rfl,rfl,rfl,0,mD,rfl,fun j hj q=>by omega⟩ ?_
 rintro F g ⟨rfl,f0,f3,f7,i,hi,f8,XT⟩;by_cases ZV:i<(O l)
 .have Z4:(i:Int)<(O l):=mD;obtain⟨bb,oo,rfl,Tu,Gs⟩:=XH (by intro e;rw[e]at ZV;simp at ZV);have r1:rd g ⟨bb,oo+i*5,al⟩ 5=U (l[i]).C:=by rw[Q9 b1 (by exact Tu)];exact Gs i ZV
  have r0:rd g ⟨h.size,0,al⟩ 5=U x.C:=ZA x1 rfl;simp only[go_sem,f0,f3,f7,f8,Z4];refine VS.q mixed sV ?_;simp only[go_sem,f0,f3,f7,f8,Z4,r1,r0];by_cases q:l[i]=x
  .have e:=kY ZV q XT;rw[q];simp only[go_sem,e,b1]
  .have q':¬x=l[i]:=fun e=>q e.symm;simp only[go_sem,q',f0,f3,f7,f8];refine⟨⟨rfl,f0,f3,f7,i+1,ZV,rfl,fun j hj Px=>?_⟩,?_⟩
   .by_cases e:j=i
    .subst e;exact q
    .exact XT j hj mD
   .simp only[vi,Zt,↓reduceIte,f8];omega
 .have Xw:¬(i:Int)<(O l):=mD;have e:=Du (l:=l) (x:=x) fun j hj=>XT j hj mD;simp only[go_sem,f7,f8,Xw,e,b1]
theorem Sv(h:Hp)(v:am)(l:List Cm)(x:Cm)(s:Ts Un.C 5 h v l)(hl:(O l)<=4611686018427387904):
  Zg au T 40 #[v,Sc x] h fun v' h'=>v'=aw (decide (x∈l))/\Zk h.size h h':=by
 obtain⟨p,c,rfl,XH⟩:=Jy s;refine Zg.XK [_,_] Tryz.func40 ?_;unfold Sc;simp only[go_sem];refine (GR T _ _ l x (s.YJ ((Zk.refl _ _).add _)) hl).use ?_;rintro _ h2 ⟨rfl,b2⟩;have b:Zk h.size h h2:=((Zk.refl _ _).add _).trans (b2.mono sW);simp only[go_sem,Lr,b]
theorem Dv(h:Hp)(b:Nat)(x y:Cm)(hb:h[b]? = U (Z x.C.toArray 49)):
  Zg au T 121 #[Sc y,Zz b] h fun v' h'=>v'=aw (decide (y=x))/\Zk h.size h h':=by
 have ZV:=Za hb;refine Zg.XK [_,_] Tryz.func121 ?_;unfold Sc Zz;have Xb:b≠h.size:=mD;have r0:rd (h.push (Z y.C.toArray 49)) ⟨h.size,0,al⟩ 5=U y.C:=ZA Zd rfl;have r1:rd (h.push (Z y.C.toArray 49)) ⟨b,0,al⟩ 5=U x.C:=ZA (by rw[ZF ZV];exact hb) rfl;simp only[go_sem,r0,r1]
def Ir(b:Nat):am:=TH 121 [b]
theorem GS(h:Hp)(v:am)(l:List Cm)(b:Nat)(x:Cm)(s:Ts Un.C 5 h v l)(hb:h[b]? = U (Z x.C.toArray 49))(hl:(O l)<=4611686018427387904):
  Zg au T 123 #[v,Ir b] h fun v' h'=>v'=Q J (Ra l x)/\Zk h.size h h':=by
 obtain⟨p,c,rfl,XH⟩:=Jy s;refine Zg.XK [_,_] Tryz.func123 ?_;have ZV:=Za hb;unfold Ir TH;simp only[go_sem];refine VS.Yq (fun F g=>Zk h.size h g/\F 0=ak p (O l) c/\F 1=Ir b/\F 7=Q J (O l)/\∃i:Nat,i<=(O l)/\F 8=Q J i/\∀j (hj:j<(O l)),j<i->l[j]≠x)
  (fun F _=>(O l)-(vi (F 8)).toNat) rfl ⟨Zk.refl _ _,rfl,rfl,rfl,0,mD,rfl,fun j hj q=>by omega⟩ ?_
 rintro F g ⟨hg,f0,f1,f7,i,hi,f8,XT⟩;by_cases ZV:i<(O l)
 .have Z4:(i:Int)<(O l):=mD;obtain⟨bb,oo,rfl,Tu,Gs⟩:=XH (by intro e;rw[e]at ZV;simp at ZV);have r1:rd g ⟨bb,oo+i*5,al⟩ 5=U (l[i]).C:=by rw[Q9 hg (by exact Tu)];exact Gs i ZV
  unfold Ir TH at f1;simp only[cf]at f1;simp only[go_sem,f0,f1,f7,f8,Z4,r1];refine (Dv T g b x l[i] (hg.get mD hb)).use ?_;rintro _ g1 ⟨rfl,b1⟩;have LO:Zk h.size h g1:=hg.trans (b1.mono hg.size);by_cases q:l[i]=x
  .have e:=kY ZV q XT;simp only[go_sem,q,f8,e,LO]
  .simp only[go_sem,q,f0,f1,f7,f8];refine⟨⟨LO,f0,f1,f7,i+1,ZV,rfl,fun j hj Px=>?_⟩,?_⟩
   .by_cases e:j=i
    .subst e;exact q
    .exact XT j hj mD
   .simp only[vi,Zt,↓reduceIte,f8];omega
 .have Xw:¬(i:Int)<(O l):=mD;have e:=Du (l:=l) (x:=x) fun j hj=>XT j hj mD;simp only[go_sem,f7,f8,Xw,e,hg]
theorem bm(h:Hp)(o:Ow)(t:Tg)(v:am)(m i:Nat)(cs:List am)(s:Xm o t 49 5 h v m cs)(d:WY o h)(X1:cs.all YN=true)(hi:i<m)(hm:m<=4611686018427387904):
  Zg au T 124 #[v,Q J i,Q J ((i:Int)+1)] h fun v' h'=>Xm o t 49 5 h' v' (m-1) (cs.take (i*5)++cs.drop ((i+1)*5))/\Kp (fun u=>u=t) o h o h':=by
 rcases s with⟨⟨p,rfl⟩,rfl,rfl⟩|⟨b,off,cap,pre,ZE,h1,rfl,h3,h4,h5,h6,h7⟩
 .omega
 refine Zg.XK [_,_,_] Tryz.func124 ?_;have e1:(i:Int)<=m:=mD;have e2:(i:Int)+1<=m:=mD;have e3:(m:Int)<=cap:=mD;have e4:(i:Int)≠i+1:=mD;have e5:((i:Int)+1).toNat=i+1:=mD;have e6:(0:Int)<=i+1:=mD;have e7:(i:Int)<=i+1:=mD;have e8:(i:Int)<=cap:=mD;have c0:cap≠0:=mD;simp only[go_sem,e1,e2,e3,e4,e5,e6,e7,e8];refine VS.z (h.size) [6] (.p 0 (.p 1 (.p 2 (.p 3 (.p 4 (.p 5 (.w 6 (.p 7 .nil)))))))) mixed sV ?_;simp only[go_sem,e1,e2,e3,e4,e5,e6,e7,e8,c0];have Hh:i*5<=m*5:=a4 _ mD;have Zud:(i+1)*5<=m*5:=a4 _ mD;have sO:m*5<=cap*5:=a4 _ h7;have ZZ:h[b]? = U (Z (pre++(cs.take (i*5)++(cs.drop (i*5)++ZE))).toArray 49 (0,0)):=by
  rw[<-aK (ck _ _),aX];exact h3
 have src:Sl 5 h (ak (if cap=i+1 then U ⟨b,off,al⟩ else U ⟨b,off+(i+1)*5,al⟩) (m-(i+1)) (cap-(i+1))) (m-(i+1)) (cs.drop ((i+1)*5)):=by
  have:=(Xm.tail (k:=i+1) (.inr ⟨b,off,cap,pre,ZE,h1,rfl,h3,h4,h5,h6,h7⟩:Xm o t 49 5 h (ak (U ⟨b,off,al⟩) m cap) m cs) mD).sl;rw[bw,XL]at this;exact this
 have nl:(cs.drop ((i+1)*5)).length=(m-(i+1))*5:=by rw[aI,h5,bc]
 refine H9 (E:=49) (n:=5) (m:=i) (k:=m-(i+1)) (cs:=cs.take (i*5)) AH b8 ZfV vP ZZ h4.symm aaa src (a8.2 fun x hx=>a8.1 X1 x (bA hx)) mD (by rw[an,aI,h5,<-bc];have:(m-(i+1))*5<=(m-i)*5:=a4 _ mD;omega) ?_;obtain⟨g,hg⟩:=ZP (h.setIfInBounds b (Z (pre++((cs.take (i*5)++cs.drop ((i+1)*5))++(cs.drop (i*5)++ZE).drop ((m-(i+1))*5))).toArray 49 (0,0)):Hp);rw[<-hg];have kg:Kp (fun u=>u=t) o h o g:=by rw[hg];exact (Kp.refl d (fun u=>u=t)).set h1 rfl _
 have gb:=ZQ (o:=Z (pre++((cs.take (i*5)++cs.drop ((i+1)*5))++(cs.drop (i*5)++ZE).drop ((m-(i+1))*5))).toArray 49 (0,0)) h3;rw[<-hg]at gb;have e9:i+(m-(i+1))=m-1:=mD;have f1:((m-1:Nat):Int)<=m:=mD;have f2:(0:Int)<=((m-1:Nat):Int):=mD;have f3:cap≠m-1:=mD;have f4:(((m-1:Nat):Int)).toNat=m-1:=mD;have f5:(0:Int)<=m:=mD;have f6:((m-1:Nat):Int)<=cap:=mD;rw[e9];simp only[go_sem,e3,f1,f2,f3,f4,f5,f6];have tl:((cs.drop (i*5)++ZE).drop ((m-(i+1))*5)).length=5+(O ZE):=by
  rw[aI,an,aI,h5];have:(m-(i+1))*5+5=m*5-i*5:=by rw[<-bc,<-bn];congr 1;omega
  omega
 obtain⟨tail,ht⟩:=ZP ((cs.drop (i*5)++ZE).drop ((m-(i+1))*5));rw[<-ht]at gb tl;obtain⟨body,gO⟩:=ZP (cs.take (i*5)++cs.drop ((i+1)*5));have bl:(O body)=(m-1)*5:=by
  rw[gO,an,a0,nl,h5,a9 Hh,<-cc];congr 1
 rw[<-gO]at gb ⊢;have gb2:g[b]? = U (Z ((pre++body)++(tail.take 5++tail.drop 5)).toArray 49 (0,0)):=by
  rw[aX,aK];exact gb
 have e10:m-(m-1)=1:=mD;rw[e10];refine L4 (E:=49) (n:=5) (k:=1) AH vP rfl rfl gb2 (by rw[an,h4,bl]) aaa ?_;intro new iK;simp only[go_sem];have kk:=kg.set h1 rfl (Z ((pre++body)++(new++tail.drop 5)).toArray 49 (0,0));refine⟨.inr ⟨b,off,cap,pre,new++tail.drop 5,h1,rfl,?_,h4,bl,?_,mD⟩,kk⟩
 .rw[ZQ gb2,aK]
 .rw[an,iK,a0,aI,tl,h6];have:(cap-(m-1))*5=(cap-m)*5+5:=by rw[<-bn];congr 1;omega
  omega
theorem bq(h:Hp)(o:Ow)(t:Tg)(v:am)(m i:Nat)(cs:List am)(s:Xm o t 99 14 h v m cs)(d:WY o h)(X1:cs.all YN=true)(hi:i<m)(hm:m<=4611686018427387904):
  Zg au T 44 #[v,Q J i,Q J ((i:Int)+1)] h fun v' h'=>Xm o t 99 14 h' v' (m-1) (cs.take (i*14)++cs.drop ((i+1)*14))/\Kp (fun u=>u=t) o h o h':=by
 rcases s with⟨⟨p,rfl⟩,rfl,rfl⟩|⟨b,off,cap,pre,ZE,h1,rfl,h3,h4,h5,h6,h7⟩
 .omega
 refine Zg.XK [_,_,_] Tryz.func44 ?_;have e1:(i:Int)<=m:=mD;have e2:(i:Int)+1<=m:=mD;have e3:(m:Int)<=cap:=mD;have e4:(i:Int)≠i+1:=mD;have e5:((i:Int)+1).toNat=i+1:=mD;have e6:(0:Int)<=i+1:=mD;have e7:(i:Int)<=i+1:=mD;have e8:(i:Int)<=cap:=mD;have c0:cap≠0:=mD;simp only[go_sem,e1,e2,e3,e4,e5,e6,e7,e8];refine VS.z (h.size) [6] (.p 0 (.p 1 (.p 2 (.p 3 (.p 4 (.p 5 (.w 6 (.p 7 .nil)))))))) mixed sV ?_;simp only[go_sem,e1,e2,e3,e4,e5,e6,e7,e8,c0];have Hh:i*14<=m*14:=a4 _ mD;have Zud:(i+1)*14<=m*14:=a4 _ mD;have sO:m*14<=cap*14:=a4 _ h7;have ZZ:h[b]? = U (Z (pre++(cs.take (i*14)++(cs.drop (i*14)++ZE))).toArray 99 (0,0)):=by
  rw[<-aK (ck _ _),aX];exact h3
 have src:Sl 14 h (ak (if cap=i+1 then U ⟨b,off,al⟩ else U ⟨b,off+(i+1)*14,al⟩) (m-(i+1)) (cap-(i+1))) (m-(i+1)) (cs.drop ((i+1)*14)):=by
  have:=(Xm.tail (k:=i+1) (.inr ⟨b,off,cap,pre,ZE,h1,rfl,h3,h4,h5,h6,h7⟩:Xm o t 99 14 h (ak (U ⟨b,off,al⟩) m cap) m cs) mD).sl;rw[bw,XL]at this;exact this
 have nl:(cs.drop ((i+1)*14)).length=(m-(i+1))*14:=by rw[aI,h5,bc]
 refine H9 (E:=99) (n:=14) (m:=i) (k:=m-(i+1)) (cs:=cs.take (i*14)) ko b0 ZfW Zb3 ZZ h4.symm aaa src (a8.2 fun x hx=>a8.1 X1 x (bA hx)) mD (by rw[an,aI,h5,<-bc];have:(m-(i+1))*14<=(m-i)*14:=a4 _ mD;omega) ?_;obtain⟨g,hg⟩:=ZP (h.setIfInBounds b (Z (pre++((cs.take (i*14)++cs.drop ((i+1)*14))++(cs.drop (i*14)++ZE).drop ((m-(i+1))*14))).toArray 99 (0,0)):Hp);rw[<-hg];have kg:Kp (fun u=>u=t) o h o g:=by rw[hg];exact (Kp.refl d (fun u=>u=t)).set h1 rfl _
 have gb:=ZQ (o:=Z (pre++((cs.take (i*14)++cs.drop ((i+1)*14))++(cs.drop (i*14)++ZE).drop ((m-(i+1))*14))).toArray 99 (0,0)) h3;rw[<-hg]at gb;have e9:i+(m-(i+1))=m-1:=mD;have f1:((m-1:Nat):Int)<=m:=mD;have f2:(0:Int)<=((m-1:Nat):Int):=mD;have f3:cap≠m-1:=mD;have f4:(((m-1:Nat):Int)).toNat=m-1:=mD;have f5:(0:Int)<=m:=mD;have f6:((m-1:Nat):Int)<=cap:=mD;rw[e9];simp only[go_sem,e3,f1,f2,f3,f4,f5,f6];have tl:((cs.drop (i*14)++ZE).drop ((m-(i+1))*14)).length=14+(O ZE):=by
  rw[aI,an,aI,h5];have:(m-(i+1))*14+14=m*14-i*14:=by rw[<-bc,<-bn];congr 1;omega
  omega
 obtain⟨tail,ht⟩:=ZP ((cs.drop (i*14)++ZE).drop ((m-(i+1))*14));rw[<-ht]at gb tl;obtain⟨body,gO⟩:=ZP (cs.take (i*14)++cs.drop ((i+1)*14));have bl:(O body)=(m-1)*14:=by
  rw[gO,an,a0,nl,h5,a9 Hh,<-cc];congr 1
 rw[<-gO]at gb ⊢;have gb2:g[b]? = U (Z ((pre++body)++(tail.take 14++tail.drop 14)).toArray 99 (0,0)):=by
  rw[aX,aK];exact gb
 have e10:m-(m-1)=1:=mD;rw[e10];refine L4 (E:=99) (n:=14) (k:=1) ko Zb3 rfl rfl gb2 (by rw[an,h4,bl]) aaa ?_;intro new iK;simp only[go_sem];have kk:=kg.set h1 rfl (Z ((pre++body)++(new++tail.drop 14)).toArray 99 (0,0));refine⟨.inr ⟨b,off,cap,pre,new++tail.drop 14,h1,rfl,?_,h4,bl,?_,mD⟩,kk⟩
 .rw[ZQ gb2,aK]
 .rw[an,iK,a0,aI,tl,h6];have:(cap-(m-1))*14=(cap-m)*14+14:=by rw[<-bn];congr 1;omega
  omega
section
variable {α:Type} {enc:α->List am} {n:Nat}
theorem OT(Wh:∀x,(enc x).length=n)(l:List α)(i:Nat)(hi:i<=(O l)):(ZT enc l).take (i*n)=ZT enc (l.take i):=by
 have h1:(ZT enc (l.take i)).length=i*n:=by rw[QL Wh,a0,a9 hi]
 have h2:ZT enc l=ZT enc (l.take i)++ZT enc (l.drop i):=by rw[<-YV,aX]
 rw[h2,<-h1,List.take_left]
theorem Rb(Wh:∀x,(enc x).length=n)(l:List α)(i:Nat)(hi:i<=(O l)):(ZT enc l).drop (i*n)=ZT enc (l.drop i):=by
 have h1:(ZT enc (l.take i)).length=i*n:=by rw[QL Wh,a0,a9 hi]
 have h2:ZT enc l=ZT enc (l.take i)++ZT enc (l.drop i):=by rw[<-YV,aX]
 rw[h2,<-h1,List.drop_left]
theorem yK(Wh:∀x,(enc x).length=n)(l:List α)(i:Nat)(hi:i<(O l))(y:α):ZT enc (l.set i y)=(ZT enc l).take (i*n)++(enc y++(ZT enc l).drop ((i+1)*n)):=by
 rw[List.set_eq_take_append_cons_drop,if_pos hi,YV,OT Wh _ _ mD,Rb Wh _ _ mD];rfl
end
theorem ZcV(l:List Cm):(ZT Un.C l).all YN=true:=by
 induction l with
 | nil=>rfl
 | cons x l ih=>rw[ZT,List.all_append,ih];rfl
theorem Sw{j:Nat}(hj:j<(O l))(q:Cm->Bool):(l.take (j+1)).filter q=(l.take j).filter q++if q l[j]=true then [l[j]] else []:=by
 rw[Y0 l j hj,List.filter_append]
 congr 1
 cases h:q l[j]<;>simp[h]
theorem bt{x:Cm}{i:Nat}(h:Ra l x=i):i<(O l)/\(l.take i).filter (fun y=>decide (y≠x))=l.take i/\l[i]? = U x:=by
 unfold Ra at h;split at h
 .rename_i hm;have hi:l.idxOf x=i:=mD;have h1:l.idxOf x<(O l):=a7 hm;refine⟨mD,?_,?_⟩
  .rw[bG];intro y hy;obtain⟨k,hk,rfl⟩:=bd hy;rw[a0]at hk;rw[List.getElem_take];have:=bk (p:=(· == x)) (xs:=l) (i:=k) (show k<List.findIdx (· == x) l by rw[show List.findIdx (· == x) l=l.idxOf x from rfl];omega)
   simpa using this
  .rw[<-hi,a5 h1,bS h1]
 .omega
theorem bu(h:Hp)(o:Ow)(t:Tg)(v:am)(l:List Cm)(bx:Nat)(x:Cm)(s:US o t h v l)(d:WY o h)(hb:Z9 o h bx (Z x.C.toArray 49))(hl:(O l)<=4611686018427387904):
  Zg au T 122 #[v,Ir bx] h fun v' h'=>US o t h' v' (l.filter fun y=>decide (y≠x))/\Kp (fun u=>u=t) o h o h':=by
 have ts:Ts Un.C 5 h v l:=⟨s.sl⟩
 obtain⟨p,c,rfl,XH⟩:=Jy ts;refine Zg.XK [_,_] Tryz.func122 ?_;unfold Ir TH;simp only[go_sem];refine (GS T h _ l bx x ts hb.2 hl).use ?_;rintro _ h1 ⟨rfl,b1⟩;have k1:Kp (fun u=>u=t) o h o h1:=Kp.H8 d b1 _;by_cases hm:x∈l
 case neg=>
  have e:Ra l x = -1:=by unfold Ra;rw[if_neg hm]
  have e2:(l.filter fun y=>decide (y≠x))=l:=by
   rw[bG];intro y hy;simpa using fun q=>hm (by rw[<-q];exact hy)
  simp only[go_sem,e,e2];exact⟨US.keep (S:=fun _=>False) s (Kp.H8 d b1 _) id,k1⟩
 obtain⟨i0,Ph⟩:∃i:Nat,Ra l x=i:=⟨l.idxOf x,by unfold Ra;rw[if_pos hm]⟩
 obtain⟨hi,hf,hx⟩:=bt Ph;rcases s with⟨⟨q,h1'⟩,h2',h3'⟩|⟨b,off,cap,pre,ZE,o1,hv,o3,o4,o5,o6,o7⟩
 .omega
 simp only[Value.slice.injEq]at hv;obtain⟨rfl,_,rfl⟩:=hv;have i1:¬((i0:Nat):Int) = -1:=mD;simp only[go_sem,Ph,i1];obtain⟨q,hq⟩:∃q:Cm->Bool,q=fun y=>decide ¬y=x:=⟨_,rfl⟩
 have hq':(fun y=>decide (y≠x))=q:=by rw[hq]
 have hqx:∀y,q y=decide ¬y=x:=fun y=>by rw[hq]
 rw[hq']at hf;rw[<-hq];have dP:l[i0]=x:=by rw[a5 hi]at hx;exact Option.some.inj hx
 have sl:(O l)<=c:=o7;have el:∀L:List Cm,(ZT Un.C L).length=(O L)*5:=fun L=>QL (n:=5) Lq L;refine VS.Yq (fun F g=>F 0=ak (U ⟨b,off,al⟩) (O l) c/\F 1=Ir bx/\Kp (fun u=>u=t) o h o g/\∃(i j:Nat) (L:List Cm),F 5=Q J i/\F 6=Q J j/\j<=(O l)/\i<j/\(O L)=(O l)/\L.take i=(l.take j).filter q/\L.drop j=l.drop j/\i=((l.take j).filter q).length /\
   g[b]? = U (Z (pre++(ZT Un.C L++ZE)).toArray 49 (0,0)))
  (fun F _=>(O l)-(vi (F 6)).toNat) rfl ⟨rfl,rfl,k1,i0,i0+1,l,rfl,?_,mD,mD,rfl,?_,rfl,?_,b1.get (Za o3) o3⟩ ?_
 .show Value.int J _=_
  congr 1
 .rw[Sw hi,hf,dP,hqx,if_neg sW,ba]
 .rw[Sw hi,hf,dP,hqx,if_neg sW,ba,a0];omega
 rintro F g ⟨f0,f1,kg,i,j,L,f5,f6,hj,sK,hL,hLi,hLj,BQ,gb⟩;unfold Ir TH at f1;simp only[cf]at f1;have gl:=Za gb;by_cases ZV:j<(O l)
 .have Z4:(j:Int)<(O l):=mD;have hjL:L[j]? = l[j]?:=by
   have:=congrArg (fun z=>z[0]?) hLj
   simpa using this
  have eG:j<(O L):=mD;have hjE:L[j]=l[j]:=by
   rw[a5 eG,a5 ZV]at hjL;exact Option.some.inj hjL
  have ow:Xm o t 49 5 g (ak (U ⟨b,off,al⟩) (O L) c) (O L) (ZT Un.C L):=.inr ⟨b,off,c,pre,ZE,o1,rfl,gb,o4,el L,by rw[hL];exact o6,mD⟩;obtain⟨p2,c2,xN,EO⟩:=Jy (⟨ow.sl⟩:Ts Un.C 5 g _ L);obtain⟨bb,oo,vF,_,hr⟩:=EO (by intro e;rw[e]at eG;simp at eG);subst vF;simp only[Value.slice.injEq,Option.some.injEq,Addr.mk.injEq]at xN;obtain⟨⟨rfl,rfl,_⟩,_,rfl⟩:=xN;have r1:rd g ⟨b,off+j*5,al⟩ 5=U (l[j]).C:=by rw[hr j eG,hjE]
  simp only[go_sem,f0,f1,f5,f6,Z4,r1];have bxg:=hb.keep kg;have bxl:bx≠g.size:=by have:=Za bxg.2;omega
  refine (Dv T _ bx x l[j] (by rw[ZF (Za bxg.2)];exact bxg.2)).use ?_;rintro _ g1 ⟨rfl,b1'⟩;have bp:Zk g.size g g1:=(Zk.push (a3 _) _).trans (b1'.mono sW);have kg1:Kp (fun u=>u=t) o h o g1:=kg.YJ bp;have gb1:=bp.get gl gb;have Zuh:g1[g.size]? = U (Z (l[j]).C.toArray 49):=b1'.get sW Zd;have yr:rd g1 ⟨g.size,0,al⟩ 5=U (l[j]).C:=ZA Zuh rfl;have fs:=Sw ZV q;have hd1:∀L':List Cm,L'.drop j=l.drop j->L'.drop (j+1)=l.drop (j+1):=fun L' h=>by
   rw[<-bD,<-bD,h]
  by_cases hxj:l[j]=x
  .have fs':(l.take (j+1)).filter q=(l.take j).filter q:=by rw[fs,hqx,if_neg (by simp[hxj]),ba]
   simp only[go_sem,hxj,f0,f1,f5,f6];refine⟨⟨f0,f1,kg1,i,j+1,L,f5,rfl,ZV,mD,hL,by rw[fs'];exact hLi,hd1 L hLj,by rw[fs'];exact BQ,gb1⟩,?_⟩;simp only[vi,Zt,↓reduceIte,f6];omega
  .have fs':(l.take (j+1)).filter q=(l.take j).filter q++[l[j]]:=by rw[fs,hqx,if_pos (by simp[hxj])]
   have i0':(0:Int)<=i:=mD;have i1':(i:Int)<(O l):=mD;have hiL:i<(O L):=mD;have w1:=Yh gb1 (off+i*5) (l[j]).C;have eL:Xd (pre++(ZT Un.C L++ZE)) (off+i*5) (l[j]).C=pre++(ZT Un.C (L.set i l[j])++ZE):=by
    have e1:ZT Un.C L=(ZT Un.C L).take (i*5)++(((ZT Un.C L).drop (i*5)).take 5++(ZT Un.C L).drop ((i+1)*5)):=by
     have:(ZT Un.C L).drop ((i+1)*5)=((ZT Un.C L).drop (i*5)).drop 5:=by rw[bD];congr 1;omega
     rw[this,aX,aX]
    have hle:(i+1)*5<=(ZT Un.C L).length:=by rw[el];omega
    rw[yK Lq L i hiL]
    conv=>lhs;rw[e1]
    have e2:pre++(((ZT Un.C L).take (i*5)++(((ZT Un.C L).drop (i*5)).take 5++(ZT Un.C L).drop ((i+1)*5)))++ZE)=(pre++(ZT Un.C L).take (i*5))++(((ZT Un.C L).drop (i*5)).take 5++((ZT Un.C L).drop ((i+1)*5)++ZE)):=by simp only[aK]
    rw[e2,TV (by rw[an,o4,a0];omega) (by rw[a0,aI,Lq];omega)];simp only[aK]
   rw[eL,if_pos ⟨by rw[an,an,o4,el,Lq];omega,yI _⟩]at w1;simp only[go_sem,hxj,f0,f1,f5,f6,yr,i0',i1',w1];refine⟨⟨f0,f1,kg1.set o1 rfl _,i+1,j+1,L.set i l[j],rfl,rfl,ZV,mD,by rw[cd,hL],?_,?_,?_,ZQ gb1⟩,?_⟩
   .rw[Y0 _ i (by rw[cd];exact hiL),List.take_set_of_le (a3 _),List.getElem_set_self,fs',<-hLi]
   .refine hd1 _ ?_;rw[<-hLj,List.drop_set_of_lt mD]
   .rw[fs',an,<-BQ];rfl
   .simp only[vi,Zt,↓reduceIte,f6];omega
 .have Xw:¬(j:Int)<(O l):=mD;obtain rfl:j=(O l):=mD;rw[List.take_length]at hLi BQ;have hiL:i<=(O L):=mD;have gb2:g[b]? = U (Z ((pre++ZT Un.C (L.take i))++(ZT Un.C (L.drop i)++ZE)).toArray 49 (0,0)):=by
   rw[<-OT Lq L i hiL,<-Rb Lq L i hiL];have:(pre++(ZT Un.C L).take (i*5))++((ZT Un.C L).drop (i*5)++ZE)=pre++(ZT Un.C L++ZE):=by
    rw[aK,<-aK (ck _ _),aX]
   rw[this];exact gb
  have tl:(ZT Un.C (L.take i)).length=i*5:=by rw[el,a0,a9 hiL]
  simp only[go_sem,f0,f5,f6,Xw];refine L4 (E:=49) (n:=5) (k:=(O l)-i) AH vP rfl rfl gb2 (by rw[an,o4,tl]) (by rw[el,aI,hL]) ?_;intro new iK;have i2:(i:Int)<=c:=mD;simp only[go_sem,i2,f0,f5];have e:(ZT Un.C (L.take i))=ZT Un.C (l.filter q):=by rw[hLi]
  refine⟨.inr ⟨b,off,c,pre,new++ZE,o1,by rw[<-BQ],?_,o4,el _,?_,mD⟩,kg.set o1 rfl _⟩
  .rw[ZQ gb2,<-e,aK]
  .rw[an,iK,el,aI,o6,hL,<-BQ,<-cc];congr 1;omega
@[go_sem] theorem Zui(x:Vt):Xj [U J,U J,U J,U J,U J,U J,U J,U J] (Zv x)=true:=rfl
@[go_sem] theorem Zuj(x y:Vt):leq (Zv x) (Zv y)=decide (x=y):=by
 obtain⟨a,⟨b,c⟩,d,e,f,g,k⟩:=x;obtain⟨a',⟨b',c'⟩,d',e',f',g',k'⟩:=y;unfold Zv;rw[br];simp[leq,ceq,Vt.mk.injEq,and_assoc]
@[go_sem] theorem Zo0(x:Yg):Xj [U J,U J] (Qu x)=true:=rfl
@[go_sem] theorem Zo1(x y:Yg):leq (Qu x) (Qu y)=decide (x=y):=by
 obtain⟨a,b⟩:=x;obtain⟨a',b'⟩:=y;unfold Qu;rw[br];simp[leq,ceq,Yg.mk.injEq]
@[go_sem] theorem ZlD(x:Vt):(Zv x).length=8:=rfl
theorem GU{l:List Vt}(s:Ts Zv 8 h v l):∃p c,v=ak p (O l) c/\(l≠[]->∃b o,p=U ⟨b,o,al⟩/\b<h.size/\∀i (hi:i<(O l)),rd h ⟨b,o+i*8,al⟩ 8=U (Zv l[i])):=by
 obtain⟨p,c,hv,hh⟩:=s.open ZlD KC;refine⟨p,c,hv,fun Xb=>?_⟩;obtain⟨b,o,h1,h2,h3⟩:=hh Xb;exact⟨b,o,h1,h2,fun i hi=>(h3 i hi).rd (by simp[Zv]) rfl⟩
theorem iW(h:Hp)(v:am)(l:List Vt)(x:Vt)(s:Ts Zv 8 h v l)(hl:(O l)<=4611686018427387904):
  Zg au T 125 #[v,aU (Zv x).toArray] h fun v' h'=>(∃i:Int,v'=Q J i/\(0<=i↔x∈l))/\Zk h.size h h':=by
 obtain⟨p,c,rfl,XH⟩:=GU s;refine Zg.XK [_,_] Tryz.func125 ?_;simp only[go_sem];obtain⟨h1,Xp⟩:=ZP (h.push (Z (Zv x).toArray 97):Hp);have b1:Zk h.size h h1:=by rw[Xp];exact Zk.push (a3 _) _
 have x1:h1[h.size]? = U (Z (Zv x).toArray 97):=by rw[Xp];exact Zd
 rw[<-Xp];clear Xp;refine VS.Yq (fun F g=>g=h1/\F 0=ak p (O l) c/\F 3=aF (U ⟨h.size,0,al⟩)/\F 7=Q J (O l)/\∃i:Nat,i<=(O l)/\F 8=Q J i/\∀j (hj:j<(O l)),j<i->l[j]≠x)
  (fun F _=>(O l)-(vi (F 8)).toNat) rfl ⟨rfl,rfl,rfl,rfl,0,mD,rfl,fun j hj q=>by omega⟩ ?_
 rintro F g ⟨rfl,f0,f3,f7,i,hi,f8,XT⟩;by_cases ZV:i<(O l)
 .have Z4:(i:Int)<(O l):=mD;obtain⟨bb,oo,rfl,Tu,Gs⟩:=XH (by intro e;rw[e]at ZV;simp at ZV);have r1:rd g ⟨bb,oo+i*8,al⟩ 8=U (Zv l[i]):=by rw[Q9 b1 (by exact Tu)];exact Gs i ZV
  have r0:rd g ⟨h.size,0,al⟩ 8=U (Zv x):=ZA x1 rfl;simp only[go_sem,f0,f3,f7,f8,Z4];refine VS.q mixed sV ?_;simp only[go_sem,f0,f3,f7,f8,Z4,r1,r0];by_cases q:l[i]=x
  .rw[q];simp only[go_sem,b1];exact⟨_,rfl,fun _=>q▸bg ZV,fun _=>by omega⟩
  .have q':¬x=l[i]:=fun e=>q e.symm;simp only[go_sem,q',f0,f3,f7,f8];refine⟨⟨rfl,f0,f3,f7,i+1,ZV,rfl,fun j hj Px=>?_⟩,?_⟩
   .by_cases e:j=i
    .subst e;exact q
    .exact XT j hj mD
   .simp only[vi,Zt,↓reduceIte,f8];omega
 .have Xw:¬(i:Int)<(O l):=mD;have hx:x ∉ l:=fun hm=>by obtain⟨j,hj,he⟩:=bd hm;exact XT j hj mD he
  simp only[go_sem,f7,f8,Xw,b1,hx];exact⟨-1,rfl,fun q=>by omega,fun q=>q.elim⟩
theorem Ew(h:Hp)(v:am)(l:List Vt)(x:Vt)(s:Ts Zv 8 h v l)(hl:(O l)<=4611686018427387904):
  Zg au T 96 #[v,aU (Zv x).toArray] h fun v' h'=>v'=aw (decide (x∈l))/\Zk h.size h h':=by
 obtain⟨p,c,rfl,XH⟩:=GU s;refine Zg.XK [_,_] Tryz.func96 ?_;simp only[go_sem];refine (iW T _ _ l x (s.YJ ((Zk.refl _ _).add _)) hl).use ?_;rintro _ h2 ⟨⟨i,rfl,hi⟩,b2⟩;have b:Zk h.size h h2:=((Zk.refl _ _).add _).trans (b2.mono sW);simp only[go_sem,hi,b]
theorem Ls(h:Hp)(a b:Yg):Zg au T 74 #[aU (Qu a).toArray,aU (Qu b).toArray] h fun v' h'=>v'=aw (decide (Zw b a))/\Zk h.size h h':=by
 refine Zg.XK [_,_] Tryz.func74 ?_;unfold Qu;by_cases q1:b.r<a.r
 .have e:Zw b a:=.inl q1;simp only[go_sem,q1,e]
  (repeat' (first|exact Zk.refl _ _|assumption|refine Zk.add ?_ _|refine Zk.Zu ?_ IX _|refine Zk.trans KO ?_))
 .by_cases q2:a.r=b.r
  .by_cases q3:b.n<a.n
   .have e:Zw b a:=.inr ⟨q2.symm,q3⟩;simp only[go_sem,q1,q2,q3,e]
    (repeat' (first|exact Zk.refl _ _|assumption|refine Zk.add ?_ _|refine Zk.Zu ?_ IX _|refine Zk.trans KO ?_))
   .have e:¬Zw b a:=fun h=>by rcases h with h|⟨_,h⟩<;>omega
    simp only[go_sem,q1,q2,q3,e]
    (repeat' (first|exact Zk.refl _ _|assumption|refine Zk.add ?_ _|refine Zk.Zu ?_ IX _|refine Zk.trans KO ?_))
  .have e:¬Zw b a:=fun h=>by rcases h with h|⟨h,_⟩<;>omega
   simp only[go_sem,q1,q2,e]
   (repeat' (first|exact Zk.refl _ _|assumption|refine Zk.add ?_ _|refine Zk.Zu ?_ IX _|refine Zk.trans KO ?_))
theorem Hk(h:Hp)(n:Nat)(hn:n<=1000000000000):Zg au T 93 #[Q J n] h fun v' h'=>v'=aw (decide (5<2*n))/\h'=h:=by
 refine Zg.XK [_] Tryz.func93 ?_;have e:((5:Int)<2*(n:Int))=(5<2*n):=by apply propext;omega
 simp only[go_sem,e]
theorem US.ts{t:Tg}(s:US o t h v l):Ts Un.C 5 h v l:=⟨Xm.sl s⟩
theorem Kk{T:World}{K:am->Hp->Prop}{ty:TypeId}{t:Tg}{x:Cm}{bx:Nat}{cb:Array Bool}(s:US o t h v l)(d:WY o h)(hb:h[bx]? = U (Z x.C.toArray 49))(hr:(O l)<=1000000000000)(H:∀p c o' h',US o' t h' (ak p ((O l)+1) c) (l++[x])->Kp (fun u=>u=t) o h o' h'->K (ak p ((O l)+1) c) h'):
  Ps au T .append #[38,38] ty cb [v,ak (U ⟨bx,0,al⟩) 1 1] K h:=by
 have src:Sl 5 h (ak (U ⟨bx,0,al⟩) 1 1) 1 x.C:=⟨_,1,rfl,rfl,fun _=>⟨bx,0,rfl,fun i hi=>by
  rw[Zn hb,Y7,Nat.zero_add];exact a5 hi⟩⟩
 refine Qg (E:=49) (n:=5) (bytes:=40) (k:=1) AH b8 ZfV vP rfl Zj1 s d src (yI x) mD mD ?_;intro v' o' h' w k _;obtain⟨p,c,rfl,_⟩:=w.ZN;refine H p c o' h' ?_ k;unfold US;rw[YV,WH,an];exact w
def ZgW(i:Nat)(t:Tg):Prop:=t=.ZX i\/t=.ZB i
theorem yL(h:Hp)(o:Ow)(wb i nb:Nat)(a:NA)(n:Nd)(x:Cm)(d:WY o h)(N:Z6 o h wb i nb a n)(hq:n.ZB.length<=1000000000000)(hl:n.ZI.length<=1000000000000):
  Zg au T 39 #[Zz nb,Sc x] h fun v' h'=>∃o' a',Kp (ZgW i) o h o' h'/\Z6 o' h' wb i nb a' (add n x):=by
 have Vg:=Za N.ZZ.2;have R:=ZS N.ZZ.2 N.pt.store.len;refine Zg.XK [_,_] Tryz.func39 ?_;unfold Zz Sc;have e1:nb≠h.size:=mD;simp only[go_sem];obtain⟨h1,Xp⟩:=ZP (h.push (Z x.C.toArray 49):Hp);have k1:Kp UN o h o h1:=by rw[Xp];exact Yv d _
 have x1:Z9 o h1 h.size (Z x.C.toArray 49):=⟨d _ (a3 _),by rw[Xp];exact Zd⟩
 rw[<-Xp];have N1:=N.Zo k1;clear Xp;have R1:=ZS N1.ZZ.2 N1.pt.store.len;have QV:=Za N1.ZZ.2;have hs1:=Za x1.2;have r1:rd h1 ⟨h.size,0,al⟩ 5=U x.C:=ZA x1.2 rfl;refine VS.z (h1.size) [13] (.p 0 (.p 1 (.p 2 (.q 3 (.q 4 (.s 5 (.p 6 (.p 7 (.p 8 (.p 9 (.p 10 (.q 11 (.q 12 (.w 13 (.p 14 (.p 15 .nil)))))))))))))))) mixed sV ?_;simp only[go_sem,R1.ZB,QV,r1,hs1];refine (Sv T h1 _ n.ZB x N1.pt.ZB.ts mD).use ?_;rintro _ h2 ⟨rfl,b2⟩;by_cases q1:x∈n.ZB
 .have e:add n x=n:=by unfold add;rw[if_pos (.inl q1)]
  simp only[go_sem,q1,b2,e];exact⟨o,a,(ZY k1).YJ b2,N1.Zo (ZU k1.Yt b2)⟩
 simp only[go_sem,q1,b2,R1.ZI,QV,r1,hs1];have k2:=ZU k1.Yt b2;refine (Sv T h2 _ n.ZI x (N1.Zo k2).pt.ZI.ts mD).use ?_;rintro _ h3 ⟨rfl,b3⟩;have b13:Zk h1.size h1 h3:=b2.trans (b3.mono b2.size);have k3:=ZU k1.Yt b13;by_cases q2:x∈n.ZI
 .have e:add n x=n:=by unfold add;rw[if_pos (.inr q2)]
  simp only[go_sem,q2,b13,e];exact⟨o,a,(ZY k1).YJ b13,N1.Zo k3⟩
 have e:add n x = { n with ZB:=n.ZB++[x] }:=by unfold add;rw[if_neg (fun q=>q.elim q1 q2)]
 simp only[go_sem,q2,b13,e];have N3:=N1.Zo k3;have x3:=x1.keep k3;have R3:=ZS N3.ZZ.2 N3.pt.store.len;have Mf:=Za N3.ZZ.2;have hs3:=Za x3.2;have r3:rd h3 ⟨h.size,0,al⟩ 5=U x.C:=ZA x3.2 rfl;refine VS.z (h3.size) [7,10] (.p 0 (.p 1 (.p 2 (.p 3 (.q 4 (.q 5 (.s 6 (.w 7 (.p 8 (.p 9 (.w 10 .nil))))))))))) mixed sV ?_;simp only[go_sem,R3.ZB,Mf,r3,hs3];have k4:=Yv k3.Yt (Z x.C.toArray 49);have N4:=N3.Zo k4;refine Kk (l:=n.ZB) N4.pt.ZB k4.Yt Zd hq ?_;intro p c o5 h5 w5 k5;have b5:=N4.ZZ.keep k5 tP;have W5:=XF b5.2 N4.pt.store.len;have w:=W5.ZB (ak p (n.ZB.length+1) c) rfl;simp only[go_sem,w];exact⟨o5,_,(((ZY k1).YJ b13).push _).trans (k5.mono fun u q=>.inr q) |>.set b5.1 (.inl rfl) _,(N4.pt.Ds k5 w5).put k5.Yt b5⟩
def UT(i:Nat)(t:Tg):Prop:=t=.world\/t=.ZG\/t=.ZX i\/t=.Zi i\/t=.ZI i\/t=.ZB i\/t=.Zq i
theorem yM{β:Type}:∀(l:List (Int × β)) (ks:List Int),ks.Nodup->(∀k∈ks,(Yl l k).isSome=true)->(O ks)<=(O l):=by
 intro l
 induction l with
 | nil=>
  intro ks _ h
  cases ks with
  | nil=>simp
  | cons k ks=>have:=h k sW;simp[Yl]at this
 | cons x l ih=>
  intro ks hn h;obtain⟨a,v⟩:=x;have h1:(ks.erase a).length<=(O l):=ih _ (hn.erase a) fun k hk=>by
   have O9:=(List.Nodup.mem_erase_iff hn).1 hk;have:=h k O9.2;unfold Yl at this;rw[if_neg (fun e=>O9.1 e.symm)]at this;exact this
  have h2:(O ks)<=(ks.erase a).length+1:=by
   rw[List.length_erase];split<;>omega
  simp only[List.length_cons];omega
theorem GV{β:Type}(l:List (Int × β))(a m:Nat)(h:∀j,j<m->(Yl l ((a+j:Nat):Int)).isSome=true):m<=(O l):=by
 have:=yM l ((bh m).map fun j=>((a+j:Nat):Int)) ?_ ?_
 .simpa using this
 .rw[List.nodup_iff_pairwise_ne,List.pairwise_map];exact (List.nodup_range (n:=m)).imp fun {x y} hxy he=>hxy mD
 .intro k hk;simp only[List.mem_map,List.mem_range]at hk;obtain⟨j,hj,rfl⟩:=hk;exact h j hj
theorem kZ(h:Hp)(cs:List am)(s:Lp cs)(x:Cm):Zg au T 38 #[aU cs.toArray,Sc x] h fun v' h'=>v'=.tuple #[aU (CZ cs x).toArray,aU #[Q J (Md cs x),Q J (GN cs x)],Q J (Lm cs x)]/\Zk h.size h h':=by
 refine (ig T h cs x.k x.c x.s x.n x.v s.fit s.num s.yes).mono ?_;rintro v' h' ⟨H,b⟩;refine⟨?_,b⟩;rw[H];unfold doL CZ Md GN Lm S6;by_cases e:Ia cs x.k x.c x.s x.n x.v=0
 .rw[if_pos e,if_pos e,if_pos e,if_pos e,e]
 .rw[if_neg e,if_neg e,if_neg e,if_neg e]
theorem Lp.yN(h:Xj Qi cs=true):Lp cs:=⟨h,iG h,aQ h⟩
theorem Lp.do(s:Lp cs)(x:Cm):Lp (CZ cs x):=by
 obtain⟨D,a,b,h1,h2,_⟩:=ZcK s.fit x;refine Lp.yN ?_;unfold doL at h1;unfold CZ Lm S6;by_cases e:Ia cs x.k x.c x.s x.n x.v=0
 .rw[if_pos e]at h1 ⊢;simp only[List.cons.injEq,Value.agg.injEq,Array.mk.injEq]at h1;rw[h1.1];exact h2
 .rw[if_neg e]at h1 ⊢;simp only[List.cons.injEq,Value.agg.injEq,Array.mk.injEq]at h1;rw[h1.1];exact h2
theorem Is{T:World}{K:am->Hp->Prop}{ty:TypeId}{t:Tg}{l:List OS}{x:OS}{bx:Nat}{cb:Array Bool}(s:Xm o t 120 5 h v (O l) (ZT GQ l))(d:WY o h)(hb:h[bx]? = U (Z (GQ x).toArray 120))(hr:(O l)<=1000000000000)(H:∀p c o' h',Xm o' t 120 5 h' (ak p ((O l)+1) c) (l++[x]).length (ZT GQ (l++[x]))->Kp (fun u=>u=t) o h o' h'->K (ak p ((O l)+1) c) h'):
  Ps au T .append #[28,28] ty cb [v,ak (U ⟨bx,0,al⟩) 1 1] K h:=by
 have src:Sl 5 h (ak (U ⟨bx,0,al⟩) 1 1) 1 (GQ x):=⟨_,1,rfl,rfl,fun _=>⟨bx,0,rfl,fun i hi=>by
  rw[Zn hb,Y7,Nat.zero_add];exact a5 hi⟩⟩
 refine Qg (E:=120) (n:=5) (bytes:=40) (k:=1) Zj0 Tryz.underlying28 Zj4 Zj6 rfl Zj5 s d src rfl mD mD ?_;intro v' o' h' w k _;obtain⟨p,c,rfl,_⟩:=w.ZN;refine H p c o' h' ?_ k;rw[YV,WH,an];exact w
theorem Z0.lj{o1:Ow}{h1:Hp}{wb:Nat}{nb:Nat->Nat}{a:WA}{fl:List Yn}{YA:Nat->Int}{ZG yO:List OS}(W:Z0 o h wb nb a fl YA ZG)(k:Kp (fun t=>t=.ZG) o h o1 h1)(hv:Xm o1 .ZG 120 5 h1 v (O yO) (ZT GQ yO)){e:Option Hp}(w:e=U (h1.setIfInBounds wb (Z (X6 YA { a with ZG:=v }).toArray 58))):
  ∃g,e=U g/\Z0 o1 g wb nb { a with ZG:=v } fl YA yO/\Kp (fun t=>t=.world) o1 h1 o1 g:=by
 have b:=W.ZZ.keep k tP;have kk:Kp (fun t=>t=.world) o1 h1 o1 (h1.setIfInBounds wb (Z (X6 YA { a with ZG:=v }).toArray 58)):=(Kp.refl k.Yt (fun t=>t=.world)).set b.1 rfl _;exact⟨_,w,⟨⟨b.1,ZQ b.2⟩,(W.Zc.keep k tP).keep kk tP,(W.Zm.keep k tP).keep kk tP,hv.keep kk tP⟩,kk⟩
def ln:Option am->Nat
 | some (ak _ l _)=>l
 | _=>0
set_option maxHeartbeats 1000000 in
theorem GW(h:Hp)(o:Ow)(wb i nb:Nat)(YK:Nat->Nat)(a:NA)(n:Nd)(Xu:WA)(fl:List Yn)(YA:Nat->Int)(ZG:List OS)(s:Int)(x:Cm)(d:WY o h)(N:Z6 o h wb i nb a n)(W:Z0 o h wb YK Xu fl YA ZG)(hk:n.Zi.length<=100000000000)(hl:n.ZI.length<=100000000000)(ht:(O ZG)<=100000000000)(hq:n.ZB.length<=1000000000000)(hw:n.Zq.length<=1000000000000):
  Zg au T 94 #[Zz wb,Zz nb,Q J s,Sc x] h fun v' h'=>∃o' a' Js,Kp (UT i) o h o' h'/\Z6 o' h' wb i nb a' (X9 n s x).n/\Z0 o' h' wb YK Js fl YA (ZG++(X9 n s x).ts):=by
 have Vg:=Za N.ZZ.2;have C3:=Za W.ZZ.2;refine Zg.XK [_,_,_,_] Tryz.func94 ?_;unfold Zz Sc;simp only[go_sem];obtain⟨h1,Xp⟩:=ZP (h.push (Z x.C.toArray 49):Hp);have k1:Kp UN o h o h1:=by rw[Xp];exact Yv d _
 have x1:Z9 o h1 h.size (Z x.C.toArray 49):=⟨d _ (a3 _),by rw[Xp];exact Zd⟩
 rw[<-Xp];have N1:=N.Zo k1;have W1:=W.Zo k1;clear Xp;have R1:=ZS N1.ZZ.2 N1.pt.store.len;have QV:=Za N1.ZZ.2;have hs1:=Za x1.2;have r1:rd h1 ⟨h.size,0,al⟩ 5=U x.C:=ZA x1.2 rfl;refine VS.z (h1.size) [6] (.p 0 (.p 1 (.p 2 (.q 3 (.p 4 (.q 5 (.w 6 .nil))))))) mixed (by kernel_rfl) ?_;simp only[go_sem,R1.Zi,QV,r1,hs1];have km:=JV (K:=fun _ _=>True) (x:=aU x.C.toArray) (n:=s) S8 N1.pt.Zi.2 (P:=au);rw[JV S8 N1.pt.Zi.2];have k2:Kp (fun t=>t=.Zi i) o h1 o (h1.setIfInBounds a.Zi (Jk (ins (Vh Sc n.Zi) s (aU x.C.toArray)))):=(Kp.refl k1.Yt (fun t=>t=.Zi i)).set N1.pt.Zi.1 rfl _;have m2:UF o (.Zi i) (h1.setIfInBounds a.Zi (Jk (ins (Vh Sc n.Zi) s (aU x.C.toArray)))) a.Zi (Vh Sc (ins n.Zi s x)):=
  ⟨N1.pt.Zi.1,by rw[ZQ N1.pt.Zi.2,PG];rfl⟩
 have N2:Z6 o (h1.setIfInBounds a.Zi (Jk (ins (Vh Sc n.Zi) s (aU x.C.toArray)))) wb i nb a (XV n s x):=⟨N1.ZZ.keep k2 (by intro e;cases e),N1.pt.pZ k2 m2⟩
 have W2:=W1.keep k2 (by rintro t rfl;simp[Tg.of]);have K2:Kp (UT i) o h o (h1.setIfInBounds a.Zi (Jk (ins (Vh Sc n.Zi) s (aU x.C.toArray)))):=(ZY k1).trans (k2.mono fun t q=>.inr (.inr (.inr (.inl q))));generalize (h1.setIfInBounds a.Zi (Jk (ins (Vh Sc n.Zi) s (aU x.C.toArray))))=h2 at *;clear km;unfold X9;obtain⟨L,hL⟩:=ZP ((XV n s x).Zi.length);have hLb:L<=100000000001:=by
  rw[hL];unfold XV;simp only[NU];split<;>omega
 obtain⟨n0,EM⟩:=ZP (XV n s x);rw[<-EM]at N2 hL ⊢;rw[<-hL];have hl0:n0.ZI.length<=100000000000:=by rw[EM];exact hl
 have hq0:n0.ZB.length<=1000000000000:=by rw[EM];exact hq
 have hw0:n0.Zq.length<=1000000000000:=by rw[EM];exact hw
 clear N1 W1 R1 QV hs1 r1 k2 m2 N W hk hl hq hw EM k1 x1;simp only[go_sem];refine VS.Yq (fun F g=>F 0=aF (U ⟨wb,0,al⟩)/\F 1=aF (U ⟨nb,0,al⟩)/\∃o' a' Js m ts f j,Kp (UT i) o h o' g/\Z6 o' g wb i nb a' m/\Z0 o' g wb YK Js fl YA (ZG++ts)/\f+j=L+1/\m.Zi=n0.Zi/\m.ZI.length=n0.ZI.length+j /\
   m.ZB.length<=1000000000000/\m.Zq.length<=1000000000000/\(O ts)<=j/\(∀j',j'<j->(Yl n0.Zi ((n0.ZI.length+j':Nat):Int)).isSome=true)/\(Yr (L+1) n0).1=(Yr f m).1/\(Yr (L+1) n0).2=ts++(Yr f m).2)
  (fun F g=>n0.ZI.length+L+2-ln (hc g ⟨nb,11,al⟩)) rfl ⟨rfl,rfl,o,a,Xu,n0,[],L+1,0,K2,N2,by rw[ba];exact W2,rfl,rfl,rfl,hq0,hw0,a3 _,fun j' h=>by omega,rfl,rfl⟩ ?_
 rintro F g ⟨f0,f1,o',a',Js,m,ts,f,j,K,M,V,hf,BD,kT,hmq,hmw,hts,hjs,g1,g2⟩;have R:=ZS M.ZZ.2 M.pt.store.len;have ZcW:=Za M.ZZ.2;obtain⟨lp,lc,Lt,hlc⟩:=Xm.ZN M.pt.ZI;have mu:ln (hc g ⟨nb,11,al⟩)=m.ZI.length:=by rw[R.ZI,Lt];rfl
 rw[mu];have R11:=R.ZI;rw[Lt]at R11;have lk:=fun (K:am->Hp->Prop)=>Xe (K:=K) (n:=(m.ZI.length:Int)) (c:=true) S8 Lo M.pt.Zi.2;have Sx:=fun (K:am->Hp->Prop) (x:Obj)=>Xe (h:=g.push x) (K:=K) (n:=(m.ZI.length:Int)) (c:=true) S8 Lo ((ZF (Za M.pt.Zi.2)).trans M.pt.Zi.2);rw[Jj]at lk;simp only[Jj]at Sx;simp only[go_sem,f0,f1]
 cases hx:Yl m.Zi (m.ZI.length:Int) with
 | none=>
  rw[hx]at lk;simp only[hx,Option.map_none,Option.getD_none,Option.isSome_none,↓reduceIte]at lk Sx;have e:f≠0->Yr f m=(m,[]):=fun Xb=>by
   obtain⟨f',rfl⟩:∃f',f=f'+1:=⟨f-1,by omega⟩
   unfold Yr;rw[hx]
  have e':Yr f m=(m,[]):=by
   by_cases q:f=0
   .subst q;rfl
   .exact e q
  rw[e']at g1 g2;refine VS.mono (N:=fun F' g'=>Zk g.size g g'/\F' 9=aw false) ?_ ?_ (fun _ _ _ h=>h) (fun _ _ h=>h)
  .refine VS.z (g.size) [9,14] (.p 0 (.p 1 (.p 2 (.q 3 (.p 4 (.p 5 (.p 6 (.q 7 (.p 8 (.or 9 (.p 10 (.p 11 (.p 12 (.s 13 (.w 14 (.p 15 .nil)))))) (.s 13 (.w 9 (.p 10 (.p 11 (.p 12 (.w 14 (.p 15 .nil))))))))))))))))) mixed (by kernel_rfl) ?_;simp only[go_sem,f0,f1,R.Zi,R11,ZcW,lk,Sx]
   repeat' (first|exact Zk.refl _ _|exact Zk.push (a3 _) _|refine cn ?_ ?_)
  .rintro F' g' ⟨b,f9⟩;simp only[go_sem,f9];rw[g1,g2,ba];exact⟨o',a',Js,K.YJ b,M.Zo (ZU K.Yt b),V.Zo (ZU K.Yt b)⟩
 | some y=>
  rw[hx]at lk;simp only[hx,bw,Option.getD_some,Option.isSome_some,↓reduceIte]at lk Sx;refine VS.mono (N:=fun F' g'=>Zk g.size g g'/\F' 0=aF (U ⟨wb,0,al⟩)/\F' 1=aF (U ⟨nb,0,al⟩)/\F' 9=aw true/\F' 8=aF (U ⟨g.size,0,al⟩)/\g'[g.size]? = U (Z y.C.toArray 49)) ?_ ?_ (fun _ _ _ h=>h) (fun _ _ h=>h)
  .refine VS.z (g.size) [9,14] (.p 0 (.p 1 (.p 2 (.q 3 (.p 4 (.p 5 (.p 6 (.q 7 (.p 8 (.or 9 (.p 10 (.p 11 (.p 12 (.s 13 (.w 14 (.p 15 .nil)))))) (.s 13 (.w 9 (.p 10 (.p 11 (.p 12 (.w 14 (.p 15 .nil))))))))))))))))) mixed (by kernel_rfl) ?_;simp only[go_sem,f0,f1,R.Zi,R11,ZcW,lk,Sx,Sc];have gp:∀x:Obj,(g.push x)[g.size]? = U x:=fun x=>Zd
   repeat' (first|exact Zk.refl _ _|exact Zk.push (a3 _) _|exact gp _|refine cn ?_ ?_)
  .rintro F2 g2 ⟨b2,f20,f21,f29,f28,x2⟩;simp only[go_sem,f29];have kb:=ZU K.Yt b2;have M2:=M.Zo kb;have V2:=V.Zo kb;have bx2:Z9 o' g2 g.size (Z y.C.toArray 49):=⟨K.Yt _ (a3 _),x2⟩
   have K2:=K.YJ b2;have PQ:=ZcW;clear R R11 lk Sx ZcW mu;have R2:=ZS M2.ZZ.2 M2.pt.store.len;have Q3:=Za M2.ZZ.2;have hs2:=Za x2;have r2:rd g2 ⟨g.size,0,al⟩ 5=U y.C:=ZA x2 rfl;refine VS.z (g2.size) [7,10] (.p 0 (.p 1 (.p 2 (.p 3 (.q 4 (.q 5 (.s 6 (.w 7 (.p 8 (.p 9 (.w 10 .nil))))))))))) mixed (by kernel_rfl) ?_;simp only[go_sem,f20,f21,f28,R2.ZI,Q3,hs2,r2];have k3:=Yv K2.Yt (Z y.C.toArray 49);refine Kk (l:=m.ZI) (M2.Zo k3).pt.ZI k3.Yt Zd (by omega) ?_;intro p c o3 g3 w3 kk3;have k3':Kp (fun t=>t=.ZI i) o' g2 o3 g3:=(ZY k3).trans kk3;have b3:=M2.ZZ.keep k3' (by intro e;cases e);have w:=(XF b3.2 M2.pt.store.len).ZI (ak p (m.ZI.length+1) c) rfl;simp only[go_sem,w];have M4:=(M2.pt.ZcT k3' w3).put k3'.Yt b3;have kn:Kp (fun t=>t=.ZX i) o3 g3 o3 (g3.setIfInBounds nb (Ja { m with ZI:=m.ZI++[y] } { a' with ZI:=ak p (m.ZI.length+1) c })):=(Kp.refl k3'.Yt (fun t=>t=.ZX i)).set b3.1 rfl _;have V4:=(V2.keep k3' (by rintro t rfl;simp[Tg.of])).keep kn (by rintro t rfl;simp[Tg.of]);have x4:=(bx2.keep k3').keep kn;have K4:Kp (UT i) o h o3 (g3.setIfInBounds nb (Ja { m with ZI:=m.ZI++[y] } { a' with ZI:=ak p (m.ZI.length+1) c })):=
    (K2.trans (k3'.mono fun t q=>.inr (.inr (.inr (.inr (.inl q)))))).trans (kn.mono fun t q=>.inr (.inr (.inl q)))
   obtain⟨g4,Lu⟩:=ZP (g3.setIfInBounds nb (Ja m { a' with ZI:=ak p (m.ZI.length+1) c }));rw[show Ja { m with ZI:=m.ZI++[y] } { a' with ZI:=ak p (m.ZI.length+1) c } = Ja m { a' with ZI:=ak p (m.ZI.length+1) c } from rfl,<-Lu]at M4 V4 x4 K4;rw[<-Lu];clear Lu kn;have R4:=ZS M4.ZZ.2 M4.pt.store.len;have IW:=Za M4.ZZ.2;have hs4:=Za x4.2;have r4:rd g4 ⟨g.size,0,al⟩ 5=U y.C:=ZA x4.2 rfl;have call:=fun G=>kZ T G m.store M4.pt.store y;have R4s:rd g4 ⟨nb,12,al⟩ 40=U m.store:=R4.store;have hD:=(M4.pt.store.do y)
   have hD0:CZ ({ m with ZI:=m.ZI++[y] }:Nd).store y=CZ m.store y:=rfl;rw[hD0]at hD;obtain⟨D,hDe⟩:=ZP (CZ m.store y);obtain⟨E,hE⟩:=ZP (Lm m.store y);obtain⟨c1,Vx⟩:=ZP (Md m.store y);obtain⟨c2,EO⟩:=ZP (GN m.store y);rw[<-hDe]at hD;rw[<-hDe,<-hE,<-Vx,<-EO]at call;have It:=hD.len;have dU:=hD.one;unfold Sc at call;have FT:=Yb (zs:=QO) (vs:=D) (by rw[It];rfl);unfold QO at FT;simp only[rep,List.cons_append,bo]at FT;have wA:∀(G:Hp) (k:Nat),G[k]? = U (Z QO.toArray 75)->wr G ⟨k,0,al⟩ D=U (G.setIfInBounds k (Z D.toArray 75)):=fun G k hx=>by
    rw[Yh hx 0 D,Yb (by rw[It];rfl),if_pos ⟨by rw[It];simp[QO,rep],dU⟩]
   have wB:∀(G:Hp) (k:Nat),G[k]? = U (Z [Q J 0,Q J 0].toArray 71)->wr G ⟨k,0,al⟩ [Q J c1,Q J c2]=U (G.setIfInBounds k (Z [Q J c1,Q J c2].toArray 71)):=fun G k hx=>by
    rw[Yh hx 0 _];rfl
   have gl:∀(G:Hp) (X Y:Obj),((G.push X).push Y)[G.size]? = U X:=fun G X Y=>by rw[ZF (by simp),Zd]
   have gs:∀(G:Hp) (k:Nat) (X Y:Obj),((G.setIfInBounds k X).push Y)[G.size]? = U Y:=fun G k X Y=>by
    have:=Zd (h:=G.setIfInBounds k X) (o:=Y);rwa [Array.size_setIfInBounds]at this
   have gl':=gs;have gr:∀(G:Hp) (X Y:Obj),((G.push X).push Y)[G.size+1]? = U Y:=fun G X Y=>by
    have:=Zd (h:=G.push X) (o:=Y);rwa [a6]at this
   refine VS.mono (N:=fun F' g'=>Zk g4.size g4 g'/\F' 0=aF (U ⟨wb,0,al⟩)/\F' 1=aF (U ⟨nb,0,al⟩)/\F' 8=aF (U ⟨g.size,0,al⟩)/\∃A B,F' 10=aF (U ⟨A,0,al⟩)/\F' 11=aF (U ⟨B,0,al⟩)/\g4.size<=A/\g4.size<=B/\g'[A]? = U (Z D.toArray 75)/\g'[B]? = U (Z [Q J c1,Q J c2].toArray 71)) ?_ ?_ (fun _ _ _ h=>h) (fun _ _ h=>h)
   .refine VS.z (g4.size) [5,12,13] (.p 0 (.p 1 (.p 2 (.q 3 (.q 4 (.or 5 (.p 6 (.p 7 (.p 8 (.p 9 (.or 10 (.s 11 (.w 12 (.w 13 (.p 14 .nil)))) (.s 11 (.s 10 (.w 12 (.w 13 (.p 14 .nil)))))))))) (.or 10 (.or 5 (.p 6 (.p 7 (.p 8 (.p 9 (.s 11 (.w 12 (.w 13 (.p 14 .nil)))))))) (.s 11 (.w 5 (.p 6 (.p 7 (.p 8 (.p 9 (.w 12 (.w 13 (.p 14 .nil)))))))))) (.s 11 (.or 5 (.p 6 (.p 7 (.p 8 (.p 9 (.s 10 (.w 12 (.w 13 (.p 14 .nil)))))))) (.s 10 (.w 5 (.p 6 (.p 7 (.p 8 (.p 9 (.w 12 (.w 13 (.p 14 .nil)))))))))))))))))) mixed (by kernel_rfl) ?_;simp only[go_sem,f20,f21,f28,R4s,IW,hs4,r4]
    repeat' (first|with_reducible exact Zk.refl _ _|with_reducible exact Zk.push (by omega) _|with_reducible refine cn ?_ ?_)
    all_goals first
     | (refine (call g4).use ?_
        rintro _ g5 ⟨rfl,b5⟩;have s5:=b5.size;simp only[go_sem,b5,It,dU,FT];refine⟨⟨f20,f21,f28,_,_,rfl,rfl,s5,by omega,gl _ _ _,gr _ _ _⟩,⟨f20,f21,f28,_,_,rfl,rfl,by omega,s5,gr _ _ _,gl _ _ _⟩⟩)
     | (refine (call (g4.push (Z _ 75))).use ?_
        rintro _ g5 ⟨rfl,b5⟩;have s5:=b5.size;rw[a6]at s5;have B5:Zk g4.size g4 g5:=(Zk.push (a3 _) _).trans (b5.mono (by simp));have xA:=b5.get (k:=g4.size) (by simp) Zd;have Pc:=wA _ _ xA;have zA:=Za xA;have gA:=ZQ (o:=Z D.toArray 75) xA;simp only[go_sem,B5,It,dU,Pc,zA];exact⟨f20,f21,f28,_,_,rfl,rfl,a3 _,by omega,by rw[ZF (by simpa using zA)];exact gA,gs _ _ _ _⟩)
     | (refine (call (g4.push (Z _ 71))).use ?_
        rintro _ g5 ⟨rfl,b5⟩;have s5:=b5.size;rw[a6]at s5;have B5:Zk g4.size g4 g5:=(Zk.push (a3 _) _).trans (b5.mono (by simp));have xB:=b5.get (k:=g4.size) (by simp) Zd;have GX:=wB _ _ xB;have zB:=Za xB;have gB:=ZQ (o:=Z [Q J c1,Q J c2].toArray 71) xB;simp only[go_sem,B5,It,dU,GX,FT,zB];exact⟨f20,f21,f28,_,_,rfl,rfl,by omega,a3 _,gl' _ _ _ _,by rw[ZF (by simpa using zB)];exact gB⟩)
     | (refine (call ((g4.push (Z _ 75)).push (Z _ 71))).use ?_
        rintro _ g5 ⟨rfl,b5⟩;have s5:=b5.size;rw[a6,a6]at s5;have B5:Zk g4.size g4 g5:=((Zk.push (a3 _) _).Y1 (by simp) _).trans (b5.mono (by simp;omega));have xA:=b5.get (k:=g4.size) (by simp;omega) (gl _ _ _);have xB:=b5.get (k:=g4.size+1) (by simp) (gr _ _ _);have Pc:=wA _ _ xA;have zA:=Za xA;have Kl:=(Y2 (o:=Z D.toArray 75) (show g4.size≠g4.size+1 by omega)).trans xB;have GX:=wB _ _ Kl;have zB:=Za Kl;simp only[go_sem,B5,It,dU,Pc,zA,GX,zB];exact⟨f20,f21,f28,_,_,rfl,rfl,by omega,by omega,(Y2 (by omega)).trans (ZQ xA),ZQ Kl⟩)
     | (refine (call ((g4.push (Z _ 71)).push (Z _ 75))).use ?_
        rintro _ g5 ⟨rfl,b5⟩;have s5:=b5.size;rw[a6,a6]at s5;have B5:Zk g4.size g4 g5:=((Zk.push (a3 _) _).Y1 (by simp) _).trans (b5.mono (by simp;omega));have xB:=b5.get (k:=g4.size) (by simp;omega) (gl _ _ _);have xA:=b5.get (k:=g4.size+1) (by simp) (gr _ _ _);have Pc:=wA _ _ xA;have zA:=Za xA;have Kl:=(Y2 (o:=Z D.toArray 75) (show g4.size+1≠g4.size by omega)).trans xB;have GX:=wB _ _ Kl;have zB:=Za Kl;simp only[go_sem,B5,It,dU,Pc,zA,GX,zB];exact⟨f20,f21,f28,_,_,rfl,rfl,by omega,by omega,(Y2 (by omega)).trans (ZQ xA),ZQ Kl⟩)
   .rintro F5 g5 ⟨b5,f50,f51,f58,A,B,f5A,f5B,hA,hB,yA,yB⟩;have Dw:=ZU K4.Yt b5;have M5:=M4.Zo Dw;have V5:=V4.Zo Dw;have x5:=x4.keep Dw;have K5:=K4.YJ b5;have z5:=Za M5.ZZ.2;have rA:rd g5 ⟨A,0,al⟩ 40=U D:=ZA yA It;obtain⟨g6,w6,M6,k6⟩:=Ym.write (n:={ m with ZI:=m.ZI++[y],store:=D }) { M5.pt with store:=hD } K5.Yt M5.ZZ ((XF M5.ZZ.2 M5.pt.store.len).store D It dU);have V6:=V5.keep k6 (by rintro t rfl;simp[Tg.of]);have x6:=x5.keep k6;have K6:Kp (UT i) o h o3 g6:=K5.trans (k6.mono fun t q=>.inr (.inr (.inl q)));have xB6:=(show Z9 o3 g5 B _ from⟨K4.Yt _ (by omega),yB⟩).keep k6;have R6:=ZS M6.ZZ.2 It;have z6:=Za M6.ZZ.2;clear R4 R4s IW hs4 r4 R2 Q3 hs2 r2;simp only[go_sem,f50,f51,f58,f5A,f5B,rA,w6,It,R6.ZB,z5];refine (bu T g6 o3 (.ZB i) _ m.ZB g.size y M6.pt.ZB K6.Yt x6 (by omega)).use ?_;rintro v7 g7 ⟨q7,k7⟩;obtain⟨p7,c7,rfl,_⟩:=Xm.ZN q7;have b7:=M6.ZZ.keep k7 (by intro e;cases e);obtain⟨g8,w8,M8,k8⟩:=(M6.pt.Ds k7 q7).write k7.Yt b7 ((XF b7.2 It).ZB (ak p7 _ c7) rfl);have z7:=Za b7.2;have V8:=(V6.keep k7 (by rintro t rfl;simp[Tg.of])).keep k8 (by rintro t rfl;simp[Tg.of]);have x8:=(x6.keep k7).keep k8;have xB8:=(xB6.keep k7).keep k8;have K8:Kp (UT i) o h o3 g8:=(K6.trans (k7.mono fun t q=>.inr (.inr (.inr (.inr (.inr (.inl q))))))).trans (k8.mono fun t q=>.inr (.inr (.inl q)));have R8:=ZS M8.ZZ.2 It;have z8:=Za M8.ZZ.2;simp only[go_sem,f50,f51,f58,w8,z7,R8.Zq];refine (GS T g8 _ m.Zq g.size y M8.pt.Zq.ts x8.2 (by omega)).use ?_;rintro _ g9 ⟨rfl,b9⟩;have kb9:=ZU K8.Yt b9;have M9:=M8.Zo kb9;have V9:=V8.Zo kb9;have x9:=x8.keep kb9;have xB9:=xB8.keep kb9;have K9:=K8.YJ b9;have Pa:∃f',f=f'+1:=⟨f-1,by
     have:f≠0:=fun q=>by
      subst q;have hj:j=L+1:=by omega
      have:=GV n0.Zi n0.ZI.length (L+2) fun j' hj'=>by
       by_cases q:j'<j
       .exact hjs j' q
       .have:j'=j:=by omega
        subst this;rw[<-kT,<-BD,hx];rfl
      rw[<-hL]at this;omega
     omega⟩
    obtain⟨f',rfl⟩:=Pa;have lg:Yr (f'+1) m=((Yr f' (QS m y)).1,RL m y++(Yr f' (QS m y)).2):=by
     rw[Yr,hx]
    rw[lg]at g1 g2;have ZlG:∀j',j'<j+1->(Yl n0.Zi ((n0.ZI.length+j':Nat):Int)).isSome=true:=fun j' hj'=>by
     by_cases q:j'<j
     .exact hjs j' q
     .have:j'=j:=by omega
      subst this;rw[<-kT,<-BD,hx];rfl
    have pG:(m.ZB.filter fun z=>decide (z≠y)).length<=m.ZB.length:=List.length_filter_le _ _;have mono:∀(G:Hp) (nn:Nd) (aa:NA) (oo:Ow),Z6 oo G wb i nb aa nn->nn.ZI.length=m.ZI.length+1->n0.ZI.length+L+2-ln (hc G ⟨nb,11,al⟩)<n0.ZI.length+L+2-m.ZI.length:=fun G nn aa oo H hh=>by
     have RR:=ZS H.ZZ.2 H.pt.store.len;obtain⟨lp,lc,Lt,hlc⟩:=Xm.ZN H.pt.ZI;have:ln (hc G ⟨nb,11,al⟩)=nn.ZI.length:=by rw[RR.ZI,Lt];rfl
     rw[this,hh];omega
    by_cases hy:y∈m.Zq
    case neg=>
     have e1:Ra m.Zq y = -1:=by unfold Ra;rw[if_neg hy]
     have e2:RL m y=[]:=by unfold RL;rw[if_neg hy]
     have e3:m.Zq.erase y=m.Zq:=List.erase_of_not_mem hy;rw[e2]at g2;have e4:QS m y = { m with ZI:=m.ZI++[y],store:=D,ZB:=m.ZB.filter (fun z=>decide (z≠y)) }:=by unfold QS;rw[e3,<-hDe]
     rw[e4]at g1 g2;rw[bo]at g2;simp only[go_sem,e1];unfold XI;refine⟨⟨f50,f51,o3,_,Js,_,ts,f',j+1,K9,M9,V9,by omega,BD,by simp[kT];omega,by simp only;omega,hmw,by omega,ZlG,g1,g2⟩,mono _ _ _ _ M9 (by simp)⟩
    have e1:0<=Ra m.Zq y:=(Lr _ _).2 hy;have e5:Ra m.Zq y=(m.Zq.idxOf y:Nat):=by unfold Ra;rw[if_pos hy]
    obtain⟨r,hr⟩:=ZP (m.Zq.idxOf y);have hrl:r<m.Zq.length:=by rw[hr];exact a7 hy
    rw[<-hr]at e5;have e2:RL m y=[⟨m.me,y.c,y.s,Md m.store y,GN m.store y⟩]:=by unfold RL;rw[if_pos hy]
    have e3:m.Zq.erase y=m.Zq.take r++m.Zq.drop (r+1):=by
     rw[List.erase_eq_eraseIdx_of_idxOf,List.eraseIdx_eq_take_drop_succ];exact hr.symm
    rw[e2]at g2;have R9:=ZS M9.ZZ.2 It;have z9:=Za M9.ZZ.2;simp only[go_sem,e1,e5,f50,f51,f58,R9.Zq,z9];refine (bm T g9 o3 (.Zq i) _ m.Zq.length r _ M9.pt.Zq K9.Yt (ZcV _) hrl (by omega)).use ?_;rintro v10 g10 ⟨q10,qc⟩;have wl:(m.Zq.erase y).length=m.Zq.length-1:=by rw[e3,an,a0,aI];omega
    have Q10:US o3 (.Zq i) g10 v10 (m.Zq.erase y):=by
     unfold US;rw[wl,e3,YV,<-OT Lq _ _ (by omega),<-Rb Lq _ _ (by omega)];exact q10
    obtain⟨p10,c10,rfl,_⟩:=Xm.ZN Q10;have b10:=M9.ZZ.keep qc (by intro e;cases e);obtain⟨g11,w11,M11,tD⟩:=(M9.pt.Iq qc Q10).write qc.Yt b10 ((XF b10.2 It).Zq (ak p10 _ c10) rfl);have z10:=Za b10.2;have V11:=(V9.keep qc (by rintro t rfl;simp[Tg.of])).keep tD (by rintro t rfl;simp[Tg.of]);have x11:=(x9.keep qc).keep tD;have ZlH:=(xB9.keep qc).keep tD;have K11:Kp (UT i) o h o3 g11:=(K9.trans (qc.mono fun t q=>.inr (.inr (.inr (.inr (.inr (.inr q))))))).trans (tD.mono fun t q=>.inr (.inr (.inl q)));have R11:=ZS M11.ZZ.2 It;have z11:=Za M11.ZZ.2;have U11:=XP V11.ZZ.2;have Zup:=Za V11.ZZ.2;have rx1:hc g11 ⟨g.size,1,al⟩=U (Q J y.c):=Zn x11.2;have rx2:hc g11 ⟨g.size,2,al⟩=U (Q J y.s):=Zn x11.2;have rB:rd g11 ⟨B,0,al⟩ 2=U [Q J c1,Q J c2]:=ZA ZlH.2 rfl;have Zur:=Za x11.2;have Zus:=Za ZlH.2;simp only[go_sem,w11,z10];refine VS.z (g11.size) [17,21] (.p 0 (.p 1 (.p 2 (.p 3 (.p 4 (.q 5 (.p 6 (.p 7 (.p 8 (.q 9 (.p 10 (.q 11 (.p 12 (.q 13 (.q 14 (.p 15 (.s 16 (.w 17 (.p 18 (.p 19 (.p 20 (.w 21 .nil)))))))))))))))))))))) mixed (by kernel_rfl) ?_;simp only[go_sem,f50,f51,f58,f5B,U11.ZG,R11.me,rx1,rx2,rB,z11,Zup,Zur,Zus];have k12:=Yv K11.Yt (Z (GQ ⟨m.me,y.c,y.s,c1,c2⟩).toArray 120);have V12:=V11.Zo k12;refine Is (l:=ZG++ts) (x:=⟨m.me,y.c,y.s,c1,c2⟩) V12.ZG k12.Yt Zd (by rw[an];omega) ?_;intro p13 c13 o13 g13 q13 k13;have b13:=V12.ZZ.keep k13 (by intro e;cases e);obtain⟨g14,w14,V14,k14⟩:=V12.lj k13 q13 ((XP b13.2).ZeV (ak p13 _ c13) rfl);have z13:=Za b13.2;simp only[go_sem,w14,z13];have M14:=((M11.Zo k12).keep k13 (by rintro t rfl;simp[Tg.of])).keep k14 (by rintro t rfl;simp[Tg.of]);have K14:Kp (UT i) o h o13 g14:=(((K11.trans (ZY k12)).trans (k13.mono fun t q=>.inr (.inl q))).trans (k14.mono fun t q=>.inl q))
    have e4:QS m y = { m with ZI:=m.ZI++[y],store:=D,ZB:=m.ZB.filter (fun z=>decide (z≠y)),Zq:=m.Zq.erase y }:=by unfold QS;rw[<-hDe]
    rw[e4]at g1 g2;rw[<-Vx,<-EO]at g2;obtain⟨ZGA,V15⟩:∃A,Z0 o13 g14 wb YK A fl YA (ZG++(ts++[⟨m.me,y.c,y.s,c1,c2⟩])):=⟨_,by rw[<-aK];exact V14⟩
    rw[<-aK]at g2;unfold XI;refine⟨⟨f50,f51,o13,_,_,_,ts++[⟨m.me,y.c,y.s,c1,c2⟩],f',j+1,K14,M14,V15,by omega,BD,by simp[kT];omega,by simp only;omega,by simp only;omega,by simp;omega,ZlG,g1,g2⟩,mono _ _ _ _ M14 (by simp)⟩
def ZlI(o:Ow)(h:Hp)(wb:Nat)(YK:Nat->Nat)(fl:List Yn)(YA:Nat->Int)(ZG:List OS)(h':Hp):Prop:=
 ∃o' Js,Kp kX o h o' h'/\Z0 o' h' wb YK Js fl YA ZG
theorem lq(h:Hp)(o:Ow)(wb nb:Nat)(YK:Nat->Nat)(me:Nat)(Xu:WA)(fl:List Yn)(YA:Nat->Int)(ZG:List OS)(b3 b4 b5 b7:Nat)(l:Yn)(w5 w:am)(vs:List Vt)(d:WY o h)(W:Z0 o h wb YK Xu fl YA ZG)(Hj:hc h ⟨nb,0,al⟩=U (Q J me))(Vg:nb<h.size)(Xa:(O fl)<=1000000000000)(x3:Z9 o h b3 (Z [Zz wb].toArray 52))(x4:Z9 o h b4 (Z [Zz nb].toArray 59))(x5:Z9 o h b5 (Z (XN l w5).toArray 99))(x7:Z9 o h b7 (Z [w].toArray 64))(iv:Tw o h w vs):
  Zg au T 90 #[Zz b3,Zz b4,Zz b5,Zz b7] h fun v' h'=>ZlI o h wb YK (fl++[⟨1,me,l.JA,l.b,SC,vs⟩]) YA ZG h':=by
 obtain⟨pw,cw,rfl⟩:=iv.ZN;refine Zg.XK [_,_,_,_] Tryz.func90 ?_;unfold Zz;have r3:hc h ⟨b3,0,al⟩=U (Zz wb):=Zn x3.2;have r4:hc h ⟨b4,0,al⟩=U (Zz nb):=Zn x4.2;have r5:hc h ⟨b5,1,al⟩=U (Q J l.JA):=Zn x5.2;have r6:rd h ⟨b5,3,al⟩ 2=U [Q J l.b.r,Q J l.b.n]:=by rw[YI x5.2 (by simp[XN])];rfl
 have r7:hc h ⟨b7,0,al⟩=U (ak pw (O vs) cw):=Zn x7.2;simp only[go_sem,r3,r4,r5,r6,r7];refine (VE T h o wb nb YK me Xu fl YA ZG l.JA ⟨1,0,0,l.b,SC,vs⟩ _ d W Hj Vg iv Xa).use ?_;rintro v' h' ⟨o',Js,k,_,W'⟩;simp only[go_sem];exact⟨o',Js,k,W'⟩
theorem lu(h:Hp)(o:Ow)(wb nb:Nat)(YK:Nat->Nat)(me:Nat)(Xu:WA)(fl:List Yn)(YA:Nat->Int)(ZG:List OS)(b3 b4 b5:Nat)(l:Yn)(w5:am)(d:WY o h)(W:Z0 o h wb YK Xu fl YA ZG)(Hj:hc h ⟨nb,0,al⟩=U (Q J me))(Vg:nb<h.size)(Xa:(O fl)<=1000000000000)(x3:Z9 o h b3 (Z [Zz wb].toArray 52))(x4:Z9 o h b4 (Z [Zz nb].toArray 59))(x5:Z9 o h b5 (Z (XN l w5).toArray 99)):
  Zg au T 95 #[Zz b3,Zz b4,Zz b5] h fun v' h'=>ZlI o h wb YK (fl++[⟨3,me,l.JA,X2,l.v,[]⟩]) YA ZG h':=by
 refine Zg.XK [_,_,_] Tryz.func95 ?_;unfold Zz;have r3:hc h ⟨b3,0,al⟩=U (Zz wb):=Zn x3.2;have r4:hc h ⟨b4,0,al⟩=U (Zz nb):=Zn x4.2;have r5:hc h ⟨b5,1,al⟩=U (Q J l.JA):=Zn x5.2;have r6:rd h ⟨b5,5,al⟩ 8=U (Zv l.v):=by rw[YI x5.2 (by simp[XN])];rfl
 unfold Zv at r6;simp only[go_sem,r3,r4,r5,r6];refine (VE T h o wb nb YK me Xu fl YA ZG l.JA ⟨3,0,0,X2,l.v,[]⟩ (ak al 0 0) d W Hj Vg (Im.nil _ _ _ _) Xa).use ?_;rintro v' h' ⟨o',Js,k,_,W'⟩;simp only[go_sem];exact⟨o',Js,k,W'⟩
def ZgZ(i:Nat)(t:Tg):Prop:=t=.world\/t=.Zm\/t=.ZX i\/t=.ZL i\/t=.Xz i
theorem ZcY(h:Hp)(o:Ow)(wb i nb:Nat)(YK:Nat->Nat)(Xu:WA)(fl:List Yn)(YA:Nat->Int)(ZG:List OS)(a:NA)(n:Nd)(acc:Qo)(to:Int)(b:Yg)(vs:List Vt)(b6 b4 b9:Nat)(u:am)(d:WY o h)(N:Z6 o h wb i nb a n)(W:Z0 o h wb YK Xu fl YA ZG)(Xa:(O fl)<=1000000000000)(x6:Oh o h b6 acc)(x4:Z9 o h b4 (Z [Zz nb].toArray 59))(x9:Z9 o h b9 (Z [u].toArray 1))(hu:yF o h wb nb u to b vs):
  Zg au T 92 #[Zz b6,Zz b4,Zz b9] h fun v' h'=>∃o' a' Js,Kp (ZgZ i) o h o' h'/\Z6 o' h' wb i nb a' { n with Zr:=acc }/\Z0 o' h' wb YK Js (fl++[⟨1,n.me,to,b,SC,vs⟩]) YA ZG:=by
 obtain⟨wa,xa,ia⟩:=x6;obtain⟨pa,ca,rfl⟩:=ia.ZN;obtain⟨b3,gQ,b5,b7,l,w5,w,rfl,y3,y4,y5,rfl,rfl,y7,iv⟩:=hu;have Vg:=Za N.ZZ.2;refine Zg.XK [_,_,_] Tryz.func92 ?_;unfold Zz;have r4:hc h ⟨b4,0,al⟩=U (Zz nb):=Zn x4.2;have r6:rd h ⟨b6,0,al⟩ 3=U [Q J acc.p.r,Q J acc.p.n,ak pa (O acc.l) ca]:=ZA xa.2 rfl;obtain⟨g1,w1,N1,k1⟩:=Ym.write (a:={ a with XO:=ak pa (O acc.l) ca }) (n:={ n with Zr:=acc }) { N.pt with XO:=ia } d N.ZZ ((XF N.ZZ.2 N.pt.store.len).Zr acc.p.r acc.p.n (ak pa (O acc.l) ca) rfl);have W1:=W.keep k1 (by rintro t rfl;simp[Tg.of]);have x91:=x9.keep k1;have r9:hc g1 ⟨b9,0,al⟩=U (TH 90 [b3,gQ,b5,b7]):=Zn x91.2;unfold TH at r9;simp only[cf]at r9;unfold Zz at r4 r9;simp only[go_sem,r4,r6,w1,Vg,r9];have R1:=ZS N1.ZZ.2 N1.pt.store.len;refine (lq T g1 o wb nb YK n.me Xu fl YA ZG b3 gQ b5 b7 l w5 w vs k1.Yt W1 R1.me (Za N1.ZZ.2) Xa (y3.keep k1) (y4.keep k1) (y5.keep k1) (y7.keep k1) (iv.keep k1)).use ?_;rintro v' h' ⟨o',Js,k,W'⟩;simp only[go_sem];exact⟨o',_,Js,(k1.mono fun t q=>.inr (.inr (.inl q))).trans (k.mono fun t q=>q.elim .inl fun q=>.inr (.inl q)),N1.keep k (by rintro t (rfl|rfl)<;>simp[Tg.of]),W'⟩
theorem ZcZ(h:Hp)(o:Ow)(wb i nb:Nat)(YK:Nat->Nat)(Xu:WA)(fl:List Yn)(YA:Nat->Int)(ZG:List OS)(a:NA)(n:Nd)(acc:Qo)(to:Int)(x:Vt)(b6 b4 b9:Nat)(u:am)(d:WY o h)(N:Z6 o h wb i nb a n)(W:Z0 o h wb YK Xu fl YA ZG)(Xa:(O fl)<=1000000000000)(x6:Oh o h b6 acc)(x4:Z9 o h b4 (Z [Zz nb].toArray 59))(x9:Z9 o h b9 (Z [u].toArray 1))(hu:yG o h wb nb u to x):
  Zg au T 98 #[Zz b6,Zz b4,Zz b9] h fun v' h'=>∃o' a' Js,Kp (ZgZ i) o h o' h'/\Z6 o' h' wb i nb a' { n with Zr:=acc }/\Z0 o' h' wb YK Js (fl++[⟨3,n.me,to,X2,x,[]⟩]) YA ZG:=by
 obtain⟨wa,xa,ia⟩:=x6;obtain⟨pa,ca,rfl⟩:=ia.ZN;obtain⟨b3,gQ,b5,l,w5,rfl,y3,y4,y5,rfl,rfl⟩:=hu;have Vg:=Za N.ZZ.2;refine Zg.XK [_,_,_] Tryz.func98 ?_;unfold Zz;have r4:hc h ⟨b4,0,al⟩=U (Zz nb):=Zn x4.2;have r6:rd h ⟨b6,0,al⟩ 3=U [Q J acc.p.r,Q J acc.p.n,ak pa (O acc.l) ca]:=ZA xa.2 rfl;obtain⟨g1,w1,N1,k1⟩:=Ym.write (a:={ a with XO:=ak pa (O acc.l) ca }) (n:={ n with Zr:=acc }) { N.pt with XO:=ia } d N.ZZ ((XF N.ZZ.2 N.pt.store.len).Zr acc.p.r acc.p.n (ak pa (O acc.l) ca) rfl);have W1:=W.keep k1 (by rintro t rfl;simp[Tg.of]);have x91:=x9.keep k1;have r9:hc g1 ⟨b9,0,al⟩=U (TH 95 [b3,gQ,b5]):=Zn x91.2;unfold TH at r9;simp only[cf]at r9;unfold Zz at r4 r9;simp only[go_sem,r4,r6,w1,Vg,r9];have R1:=ZS N1.ZZ.2 N1.pt.store.len;refine (lu T g1 o wb nb YK n.me Xu fl YA ZG b3 gQ b5 l w5 k1.Yt W1 R1.me (Za N1.ZZ.2) Xa (y3.keep k1) (y4.keep k1) (y5.keep k1)).use ?_;rintro v' h' ⟨o',Js,k,W'⟩;simp only[go_sem];exact⟨o',_,Js,(k1.mono fun t q=>.inr (.inr (.inl q))).trans (k.mono fun t q=>q.elim .inl fun q=>.inr (.inl q)),N1.keep k (by rintro t (rfl|rfl)<;>simp[Tg.of]),W'⟩
theorem Wt.ins{k:Int}{w:am}{vs:List Vt}(iv:Tw o h w vs):∀{pv:List (Int × am)} {pr:List (Int × List Vt)},Wt o h pv pr->Wt o h (Go.V.ins pv k w) (Go.V.ins pr k vs):=by
 intro pv pr s
 induction s with
 | nil=>exact .cons ⟨rfl,iv⟩ .nil
 | @cons a b l m Cc _ ih=>
  obtain⟨a1,a2⟩:=a;obtain⟨b1,b2⟩:=b;obtain⟨rfl,h2⟩:=Cc;show AE _ (if a1=k then (a1,w) :: l else (a1,a2) :: Go.V.ins l k w) (if a1=k then (a1,vs) :: m else (a1,b2) :: Go.V.ins m k vs);by_cases q:a1=k
  .rw[if_pos q,if_pos q];exact .cons ⟨rfl,iv⟩ KO
  .rw[if_neg q,if_neg q];exact .cons ⟨rfl,h2⟩ ih
theorem Wt.length{pv:List (Int × am)}{pr:List (Int × List Vt)}(s:Wt o h pv pr):(O pv)=(O pr):=by
 induction s with
 | nil=>rfl
 | cons _ _ ih=>simp[ih]
theorem Wt.Yl{pv:List (Int × am)}{pr:List (Int × List Vt)}(s:Wt o h pv pr)(k:Int):(Go.V.Yl pv k=al/\Go.V.Yl pr k=al)\/∃w vs,Go.V.Yl pv k=U w/\Go.V.Yl pr k=U vs/\Tw o h w vs:=by
 induction s with
 | nil=>exact .inl ⟨rfl,rfl⟩
 | @cons a b l m Cc _ ih=>
  obtain⟨a1,a2⟩:=a;obtain⟨b1,b2⟩:=b;obtain⟨rfl,h2⟩:=Cc;unfold Go.V.Yl;by_cases q:a1=k
  .rw[if_pos q,if_pos q];exact .inr ⟨_,_,rfl,rfl,h2⟩
  .rw[if_neg q,if_neg q];exact ih
theorem XA.lw{i:Nat}{ra:RA}{r:XM}(s:XA o i h ra r)(d:WY o h){k:Int}{w:am}{vs:List Vt}(iv:Tw o h w vs):
  Kp (fun t=>t=.ZL i) o h o (h.setIfInBounds ra.pb (Jk (ins ra.pv k w)))/\XA o i (h.setIfInBounds ra.pb (Jk (ins ra.pv k w))) { ra with pv:=ins ra.pv k w } { r with ZL:=ins r.ZL k vs }:=by
 have kk:Kp (fun t=>t=.ZL i) o h o (h.setIfInBounds ra.pb (Jk (ins ra.pv k w))):=(Kp.refl d (fun t=>t=.ZL i)).set s.ZL.1 rfl _;exact⟨kk,s.ZZ.keep kk tP,⟨s.ZL.1,ZQ s.ZL.2⟩,Wt.keep (Wt.ins iv s.Og) kk,s.Yj.keep kk tP,s.YY.keep kk tP,s.Su.keep kk (fun _ e=>by cases e),s.keys⟩
theorem Ym.qd{wb i nb:Nat}{a:NA}{n:Nd}(s:Ym o h wb i nb a n)(k:Kp (fun t=>t=.Xz i) o h o' h')(hp:n.Zp=al):Ym o' h' wb i nb a n:=
 ⟨s.data.keep k,s.XO.keep k,s.Zh.keep k (fun t ht=>by rcases ht with rfl|rfl|rfl|rfl|⟨z,rfl⟩<;>intro e<;>cases e),s.Zi.keep k tP,s.ZI.keep k tP,s.ZB.keep k tP,s.Zq.keep k tP,s.Zf.keep k tP,by
  have:=s.Zp;rw[hp]at this ⊢;exact this,s.store⟩
theorem Iu{n:Nd}{a:NA}{ra ra':RA}(r:Option XM)(h:a.Zh=U ra)(hb:ra'.rb=ra.rb):Ja { n with Zh:=r } { a with Zh:=U ra' } = Ja n a:=by
 unfold Ja Vo;simp only[h,Me,hb]
def Zux(i:Nat)(t:Tg):Prop:=t=.ZX i\/t=.ZL i\/t=.Xz i
theorem Zc0(h:Hp)(o:Ow)(wb i nb:Nat)(a:NA)(n:Nd)(acc:Qo)(vs:List Vt)(cur:Bool)(v:am)(d:WY o h)(N:Z6 o h wb i nb a n)(hp:n.Zp=al)(hv:ZlA o h i nb a.Zh v acc vs cur):
  ∃b6 b4 b7 b5,v=TH 99 [b6,b4,b7,b5]/\Zg au T 99 #[Zz b6,Zz b4,Zz b7,Zz b5] h fun v' h'=>∃o' a',Kp (Zux i) o h o' h'/\Z6 o' h' wb i nb a' { n with Zr:=acc,Zh:=if cur=true then n.Zh.map (fun r=>{ r with ZL:=ins r.ZL n.me vs }) else n.Zh }:=by
 obtain⟨b6,b4,b7,b5,w,rb,rfl,⟨wa,xa,ia⟩,x4,x7,iv,x5,ZlJ⟩:=hv;obtain⟨pa,ca,rfl⟩:=ia.ZN;obtain⟨pw,cw,rfl⟩:=iv.ZN;refine⟨b6,b4,b7,b5,rfl,?_⟩;have Vg:=Za N.ZZ.2;refine Zg.XK [_,_,_,_] Tryz.func99 ?_;unfold Zz;have r4:hc h ⟨b4,0,al⟩=U (Zz nb):=Zn x4.2;have r6:rd h ⟨b6,0,al⟩ 3=U [Q J acc.p.r,Q J acc.p.n,ak pa (O acc.l) ca]:=ZA xa.2 rfl;obtain⟨g1,w1,N1,k1⟩:=Ym.write (a:={ a with XO:=ak pa (O acc.l) ca }) (n:={ n with Zr:=acc }) { N.pt with XO:=ia } d N.ZZ ((XF N.ZZ.2 N.pt.store.len).Zr acc.p.r acc.p.n (ak pa (O acc.l) ca) rfl);unfold Zz at r4;simp only[go_sem,r4,r6,w1,Vg];have y4:=x4.keep k1;have y5:=x5.keep k1;have y7:=x7.keep k1;have q4:hc g1 ⟨b4,0,al⟩=U (Zz nb):=Zn y4.2;have q5:hc g1 ⟨b5,0,al⟩=U (Zz rb):=Zn y5.2;have q7:hc g1 ⟨b7,0,al⟩=U (ak pw (O vs) cw):=Zn y7.2;unfold Zz at q4 q5;have l4:=Za y4.2;have l5:=Za y5.2;have l7:=Za y7.2;have R1:=ZS N1.ZZ.2 N1.pt.store.len;have lnb:=Za N1.ZZ.2;have iv1:=iv.keep k1;refine VS.z (g1.size) [9] (.q 0 (.p 1 (.p 2 (.q 3 (.q 4 (.p 5 (.p 6 (.q 7 (.q 8 (.w 9 .nil)))))))))) mixed sV ?_
 cases cur with
 | true=>
  obtain⟨ra,Km,rfl⟩:=ZlJ;have hR:=N1.pt.Zh;have qe:({ a with XO:=ak pa (O acc.l) ca }:NA).Zh=U ra:=Km;rw[qe]at hR
  cases hr:n.Zh with
  | none=>rw[show ({ n with Zr:=acc }:Nd).Zh=al from hr]at hR;exact hR.elim
  | some r=>
   rw[show ({ n with Zr:=acc }:Nd).Zh=U r from hr]at hR;have hR:XA o i g1 ra r:=hR;have rr:hc g1 ⟨ra.rb,2,al⟩=U (.map (U ra.pb)):=Zn hR.ZZ.2;have dV:=Za hR.ZZ.2;simp only[go_sem,q4,q5,q7,l4,l5,l7,lnb,R1.me,rr,dV];rw[JV Io hR.ZL.2];simp only[go_sem];obtain⟨k2,R2⟩:=hR.lw k1.Yt (k:=n.me) iv1;have k2':Kp (JL i) o g1 o _:=k2.mono fun t q=>.inr (.inl q);refine⟨o,{ ({ a with XO:=ak pa (O acc.l) ca }:NA) with Zh:=U { ra with pv:=ins ra.pv n.me (ak pw (O vs) cw) } },(k1.mono fun t q=>.inl q).trans (k2.mono fun t q=>.inr (.inl q)),?_,?_⟩
   .have:=N1.ZZ.keep k2 tP;rw[<-Iu (U { r with ZL:=ins r.ZL n.me vs }) qe (ra':={ ra with pv:=ins ra.pv n.me (ak pw (O vs) cw) }) rfl]at this;exact this
   .exact Ym.UG N1.pt k2' qe rfl R2
 | false=>
  obtain⟨cs,pb,pv,y1,y2,y3⟩:=ZlJ;have z1:=y1.keep k1 tP;have z3:=y3.keep k1 tP;have rr:hc g1 ⟨rb,2,al⟩=U (.map (U pb)):=by rw[SG z1.2];exact y2
  have dV:=Za z1.2;simp only[go_sem,q4,q5,q7,l4,l5,l7,lnb,R1.me,rr,dV];rw[JV Io z3.2];simp only[go_sem];have k2:Kp (fun t=>t=.Xz i) o g1 o (g1.setIfInBounds pb (Jk (ins pv n.me (ak pw (O vs) cw)))):=(Kp.refl k1.Yt (fun t=>t=.Xz i)).set z3.1 rfl _;exact⟨o,_,(k1.mono fun t q=>.inl q).trans (k2.mono fun t q=>.inr (.inr q)),N1.ZZ.keep k2 tP,N1.pt.qd k2 hp⟩
end Go.Proofs.YtnhfdnlcpdbjlaaGreatDoor

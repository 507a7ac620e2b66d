/- Part Mop. -/
import Derived.Test.YthlfaofofaphfaaGreatDoorOpn
import Derived.Test.YthlfaofofaphfaaGreatDoorMix
import Derived.Test.YthlfaofofaphfaaGreatDoorChw
import Derived.Test.YthlfaofofaphfaaGreatDoorPik
import Derived.Test.YthlfaofofaphfaaGreatDoorW28
open Go.Value renaming int→Q,slice→ae,bool→aD,pointer→aN,agg→a3
open Go.IntKind renaming i64→J
open Go.Obj renaming cells→Z
open Go.Proofs.Tryz renaming prog→aw,underlying95→b8,underlying46→cc
open List renaming length→O,length_append→am,length_drop→aO,append_assoc→a0,take_append_drop→a4,length_take→a5,getElem?_eq_getElem→a8,idxOf_lt_length_of_mem→ba,all_eq_true→bc,append_nil→be,getElem_of_mem→bg,getElem?_append_right→bh,getElem_mem→bk,range→bn,not_of_lt_findIdx→bo,nil_append→bw,set_append_right→bB,mem_of_mem_drop→bG,drop_drop→bN,filter_eq_self→bR,getElem_idxOf→b0,length_set→cf,map→cg,all_cons→ch,take→ck
open Nat renaming le_refl→a6,mul_le_mul_right→a7,min_eq_left→bd,sub_mul→bf,succ_mul→br,lt_of_lt_of_le→bS,add_mul→cd
open Option renaming map_some→bA,some→U,none→ag
open Array renaming size_push→a9
open Bool renaming eq_iff_iff→bz
open And renaming intro→cn
open Go renaming Value→al
namespace Go.Proofs.YthlfaofofaphfaaGreatDoor
open Go Go.V
set_option linter.unusedSimpArgs false
set_option linter.unusedVariables false
variable(T:World){cs:List al}{h h':Hp}{v:al}
deriving instance DecidableEq for YA
deriving instance DecidableEq for Vt
deriving instance DecidableEq for JZ
abbrev Cm:=JZ
variable{l:List Cm}
def Oa:Cm:=⟨0,0,0,0,0⟩
def JZ.C(x:JZ):List al:=Ua x.k x.c x.s x.n x.v
def JZ.err(x:JZ):Int:=YC x.k x.c x.s x.n x.v
def Vt.cm(v:Vt):Cm:=⟨v.k,v.c,v.s,v.nm,v.v⟩
def QK(s:Int)(b:YA)(x:Cm):Vt:=⟨s,b,x.k,x.c,x.s,x.n,x.v⟩
def Jq:YA:=⟨0,0⟩
structure YH where
 Z3:Int
 Jw:Int
 to:Int
 b:YA
 v:Vt
 vs:List Vt
structure XE where
 b:YA
 ZI:List (Int × List Vt)
 XU:Bool
 ZY:List (Int × Cm)
 Xb:List (Int × List (Int × Unit))
inductive Kv where
 | VN (a:UP) (to:Int) (b:YA) (vs:List Vt)
 | TX (a:UP) (to:Int) (v:Vt)
 | Zq (a:UP) (vs:List Vt) (cur:Bool)
structure Nd where
 me:Nat
 up:Bool
 data:List Nat
 Y4:Int
 Zq:UP
 Y1:YA
 Zh:Option XE
 Zi:List (Int × Cm)
 ZA:List Cm
 store:List al
 Zx:List Cm
 Zk:List Cm
 Zg:List YH
 Zs:Option Kv
 Yv:Int
structure Ob where
 ZS:Int
 c:Int
 s:Int
 code:Int
 val:Int
structure Wd where
 Zb:Nat->Nd
 Zp:List YH
 Yy:Nat->Int
 ZE:List Ob
structure Out where
 n:Nd
 ls:List YH
 ts:List Ob
def YG(n:Nd)(l:YH):Out:=
 if YI n.Zq.p n.Zq.l l.b≠0 then ⟨n,[⟨7,n.me,l.Jw,n.Zq.p,SU,[]⟩],[]⟩
 else if n.Zq.p=l.b then ⟨n,[⟨1,n.me,l.Jw,l.b,SU,n.Zq.l⟩],[]⟩
 else if Jp n.data n.Y4 l.b≠0 then ⟨n,[],[]⟩
 else ⟨{ n with data:=n.data++YV (JT l.b),Zs:=U (.VN ⟨l.b,n.Zq.l⟩ l.Jw l.b n.Zq.l) },[],[]⟩
def asked(n:Nd)(l:YH):Out:=
 if Xn n.Zq.p n.Zq.l l.v≠0 then ⟨n,[⟨7,n.me,l.Jw,n.Zq.p,SU,[]⟩],[]⟩
 else if l.v∈n.Zq.l then ⟨n,[⟨3,n.me,l.Jw,Jq,l.v,[]⟩],[]⟩
 else if Ue n.data n.Y4 l.v≠0 then ⟨n,[],[]⟩
 else ⟨{ n with data:=n.data++YV (Uy l.v),Zs:=U (.TX ⟨l.v.b,JH n.Zq.l l.v⟩ l.Jw l.v) },[],[]⟩
def FM(st:List al)(x:Cm):List al:=if UU st x=0 then (YT st x).cells else Yj
def OM(st:List al)(x:Cm):Int:=if UU st x=0 then (YT st x).code else 0
def Hb(st:List al)(x:Cm):Int:=if UU st x=0 then (YT st x).val else 0
def J4(n:Nd)(x:Cm):Nd:={ n with ZA:=n.ZA++[x],store:=FM n.store x,Zx:=n.Zx.filter (fun y=>decide (y≠x)),Zk:=n.Zk.erase x }
def WR(n:Nd)(x:Cm):List Ob:=if x∈n.Zk then [⟨n.me,x.c,x.s,OM n.store x,Hb n.store x⟩] else []
def Yg:Nat->Nd->Nd × List Ob
 | 0,n=>(n,[])
 | k+1,n=>match Yh n.Zi n.ZA.length with
  | none=>(n,[])
  | some x=>((Yg k (J4 n x)).1,WR n x++(Yg k (J4 n x)).2)
def Jk(n:Nd)(s:Int)(x:Cm):Nd:={ n with Zi:=ins n.Zi s x }
def Jl(n:Nd)(s:Int)(x:Cm):Out:=
 ⟨(Yg ((Jk n s x).Zi.length+1) (Jk n s x)).1,[],(Yg ((Jk n s x).Zi.length+1) (Jk n s x)).2⟩
def ZdX(n:Nd)(r:XE)(l:YH):Nd:={ n with Zh:=U { r with ZI:=ins r.ZI l.Jw l.vs } }
def Ug(r:XE)(l:YH):List (Int × Unit):=ins ((Yh r.Xb l.v.Zu).getD []) l.Jw ()
def TG(n:Nd)(r:XE)(l:YH):Nd:={ n with Zh:=U { r with Xb:=ins r.Xb l.v.Zu (Ug r l) } }
def Ym(n:Nd)(l:YH):Out:=
 match n.Zh with
 | none=>⟨n,[],[]⟩
 | some r=>
  if l.Z3=1 then (if l.b=r.b then ⟨ZdX n r l,[],[]⟩ else ⟨n,[],[]⟩)
  else if l.v.b≠r.b then ⟨n,[],[]⟩
  else if 5<2*(Ug r l).length then Jl (TG n r l) l.v.Zu l.v.cm
  else ⟨TG n r l,[],[]⟩
def add(n:Nd)(x:Cm):Nd:=if x∈n.Zx\/x∈n.ZA then n else { n with Zx:=n.Zx++[x] }
def Xz(n:Nd)(l:YH):Nd:=if ZM n.Y1 l.b then { n with Y1:=l.b } else n
def Qy(n:Nd)(l:YH):Out:=
 match Yh n.Zi l.v.Zu with
 | some x=>⟨Xz n l,[⟨6,n.me,l.Jw,Jq,QK l.v.Zu Jq x,[]⟩],[]⟩
 | none=>⟨Xz n l,[],[]⟩
def Zw(n:Nd)(l:YH):Out:=
 if l.Z3=0 then YG n l else if l.Z3=1\/l.Z3=3 then Ym n l else if l.Z3=2 then asked n l
 else if l.Z3=4 then ⟨add n l.v.cm,[],[]⟩ else if l.Z3=5 then Qy n l else if l.Z3=6 then Jl n l.v.Zu l.v.cm else ⟨Xz n l,[],[]⟩
def Yp(r:XE):List (List Vt):=(bn 5).map fun (m:Nat)=>(Yh r.ZI (m:Int)).getD []
def Pm(l:List Vt):Int:=l.foldl (fun t v=>if t<v.Zu then v.Zu else t) (-1)
def ON(LL:List (List Vt))(s:Int):Cm:=if Sv s LL.flatten=0 then (WP s LL.flatten).cm else Oa
def J6(n:Nd)(LL:List (List Vt))(pr:List (Int × Cm))(s:Nat):List (Int × Cm):=if Yh n.Zi (s:Int)=ag then ins pr (s:Int) (ON LL s) else pr
def Wn(n:Nd)(r:XE):XE:=
 { r with ZY:=(List.range' n.ZA.length ((Pm (Yp r).flatten+1).toNat-n.ZA.length)).foldl (J6 n (Yp r)) r.ZY,XU:=true }
def Qo(n:Nd)(r:XE)(x:Cm):Nat->Nat->Option Nat
 | 0,_=>ag
 | k+1,s=>if Yh r.ZY (s:Int)=U x\/Yh n.Zi (s:Int)=U x then ag
  else if Yh r.ZY (s:Int)=ag/\Yh n.Zi (s:Int)=ag then U s else Qo n r x k (s+1)
def free(n:Nd)(r:XE)(x:Cm):Option Nat:=Qo n r x (40-n.ZA.length) n.ZA.length
def Qc(n:Nd)(r:XE)(x:Cm):XE:=match free n r x with|some s=>{ r with ZY:=ins r.ZY (s:Int) x }|none=>r
def Jj(n:Nd)(r:XE)(l:List Cm):XE:=l.foldl (Qc n) r
def Pq(n:Nd)(r:XE):List YH:=(bn 5).flatMap fun (m:Nat)=>if Yh r.ZI (m:Int)=ag then [⟨0,n.me,m,r.b,SU,[]⟩] else []
def PU(n:Nd)(r:XE)(s:Nat)(x:Cm)(m:Nat):List YH:=if Yh ((Yh r.Xb (s:Int)).getD []) (m:Int)=ag then [⟨2,n.me,m,Jq,QK s r.b x,[]⟩] else []
def VG(n:Nd)(r:XE)(s:Nat):List YH:=match Yh r.ZY (s:Int) with
 | some x=>if Yh n.Zi (s:Int)=ag then (bn 5).flatMap (PU n r s x) else []
 | none=>[]
def TH(n:Nd)(r:XE):List YH:=(bn 40).flatMap (VG n r)
def X9(n:Nd)(r:XE):XE:=Jj n (if r.XU=true then r else Wn n r) n.Zx
def JU(n:Nd)(r:XE):Out:=
 if ZM n.Zq.p r.b then
  (if Jp n.data n.Y4 r.b≠0 then ⟨n,[],[]⟩ else
    ⟨{ n with data:=n.data++YV (JT r.b),Zs:=U (.Zq (if YI n.Zq.p n.Zq.l r.b=0 then ⟨r.b,n.Zq.l⟩ else JN) (if YI n.Zq.p n.Zq.l r.b=0 then n.Zq.l else []) true) },[],[]⟩)
 else if ¬5<2*r.ZI.length then ⟨n,Pq n r,[]⟩
 else ⟨{ n with Zh:=U (X9 n r) },TH n (X9 n r),[]⟩
def Zo(n:Nd):Nd:=match n.Zh with|some r=>if ZM r.b n.Zq.p then { n with Zh:=ag } else n|none=>n
def WD(n:Nd):List YH:=n.Zx.map fun x=>⟨4,n.me,n.Zq.p.n,Jq,QK 0 Jq x,[]⟩
def Z9(n:Nd):Out:=match n.Zh with
 | some r=>JU n r
 | none=>if 0<n.Zq.p.r/\n.Zq.p.n≠n.me then ⟨n,WD n,[]⟩ else ⟨n,[],[]⟩
def Vs(n:Nd):YA:=if ZM n.Zq.p n.Y1 then n.Y1 else n.Zq.p
def J7(n:Nd):Nd:={ n with Yv:=(n.Yv+1)%5 }
def UV(n:Nd):List YH:=if n.Yv≠n.me/\n.ZA.length<40 then [⟨5,n.me,n.Yv,Vs n,QK n.ZA.length Jq Oa,[]⟩] else []
def Yq(n:Nd):Out:=
 if (Z9 (Zo n)).n.Zs.isSome=true then Z9 (Zo n)
 else ⟨J7 (Z9 (Zo n)).n,(Z9 (Zo n)).ls++UV (J7 (Z9 (Zo n)).n),[]⟩
def ZQ(n:Nd):Nd:={ n with data:=if Y0 n.data n.Y4 then n.data else [],Y4:=if Y0 n.data n.Y4 then ((O n.data):Int) else 0,Zs:=ag }
def YM(n:Nd):Kv->Out
 | .VN a to b vs=>⟨{ n with Zq:=a },[⟨1,n.me,to,b,SU,vs⟩],[]⟩
 | .TX a to v=>⟨{ n with Zq:=a },[⟨3,n.me,to,Jq,v,[]⟩],[]⟩
 | .Zq a vs cur=>⟨{ n with Zq:=a,Zh:=if cur=true then n.Zh.map (fun r=>{ r with ZI:=ins r.ZI n.me vs }) else n.Zh },[],[]⟩
def ZB:Nd->List YH->Out
 | n,[]=>⟨{ n with Zg:=[] },[],[]⟩
 | n,l :: k=>if n.Zs.isSome=true then ⟨{ n with Zg:=l :: k },[],[]⟩
  else ⟨(ZB (Zw { n with Zg:=k } l).n k).n,(Zw { n with Zg:=k } l).ls++(ZB (Zw { n with Zg:=k } l).n k).ls,(Zw { n with Zg:=k } l).ts++(ZB (Zw { n with Zg:=k } l).n k).ts⟩
def step(n:Nd):Out:=
 if n.up=true then (match n.Zs with
  | some p=>YM (ZQ n) p
  | none=>if (ZB n n.Zg).n.Zs.isSome=true then ZB n n.Zg
   else ⟨(Yq (ZB n n.Zg).n).n,(ZB n n.Zg).ls++(Yq (ZB n n.Zg).n).ls,(ZB n n.Zg).ts++(Yq (ZB n n.Zg).n).ts⟩)
 else ⟨n,[],[]⟩
def Yu(i:Nat)(up:Bool)(data:List Nat)(Y4:Int)(Zq:UP):Nd:=⟨i,up,data,Y4,Zq,Jq,ag,[],[],Yj,[],[],[],ag,0⟩
def Ju(n:Nd):YA:=⟨match n.Zh with
 | some r=>max (max n.Zq.p.r n.Y1.r+1) (r.b.r+1)
 | none=>max n.Zq.p.r n.Y1.r+1,n.me⟩
def Ja:Option Kv->Option Kv
 | some (.Zq a vs _)=>U (.Zq a vs false)
 | p=>p
def lead(n:Nd):Nd:=if n.up=false\/65536<(Ju n).r then n else { n with Zh:=U ⟨Ju n,[],false,[],[]⟩,Zs:=Ja n.Zs }
def Xu(rc:List Nat)(now:Int):Cm:=if YR rc now=0 then ⟨XD ((Jg rc).drop 22) 0,XD ((Jg rc).drop 22) 1,XD ((Jg rc).drop 22) 2,XD ((Jg rc).drop 22) 3,XD ((Jg rc).drop 22) 4⟩ else Oa
def FN(l:List Nat):Nat->UP->Nat->UP × Nat
 | 0,a,k=>(a,k)
 | f+1,a,k=>match Y9 l a k with
  | none=>(a,k)
  | some x=>FN l f x.1 x.2
def TJ(l:List Nat):UP × Nat:=FN l ((O l)+1) JN 0
def UQ(l:List Nat)(n k:Int):Int:=n+(if ((O l):Int)-n<k then ((O l):Int)-n else k)
def Xy(i:Nat)(n:Nd)(Zf:Int):Nd:=
 if n.up=true then (if Y0 n.data n.Y4/\0<=Zf then Yu i false (n.data.take (UQ n.data n.Y4 Zf).toNat) (UQ n.data n.Y4 Zf) JN else Yu i false [] 0 JN) else n
def FO(l:List Nat)(n:Int):List Nat:=if Y0 l n then l.take (TJ l).2 else []
def jW(l:List Nat)(n:Int):Int:=if Y0 l n then (if ((TJ l).2:Int)<n then ((TJ l).2:Int) else n) else 0
def started(i:Nat)(n:Nd):Nd:=
 if n.up=true then n else Yu i true (FO n.data n.Y4) (jW n.data n.Y4) (if Y0 (FO n.data n.Y4) (jW n.data n.Y4) then (TJ (FO n.data n.Y4)).1 else JN)
structure Ac where
 Z3:Int
 ZS:Nat
 at':Nat
 Zf:Int
 data:List Nat
def Wd.set(w:Wd)(i:Nat)(n:Nd):Wd:={ w with Zb:=fun j=>if j=i then n else w.Zb j }
def Wd.out(w:Wd)(i:Nat)(o:Out):Wd:={ Zb:=fun j=>if j=i then o.n else w.Zb j,Zp:=w.Zp++o.ls,Yy:=w.Yy,ZE:=w.ZE++o.ts }
def QL(w:Wd)(l:YH):Wd:=if (w.Zb l.to.toNat).up=true then w.set l.to.toNat { w.Zb l.to.toNat with Zg:=(w.Zb l.to.toNat).Zg++[l] } else w
def pick(w:Wd)(at':Nat)(comes stays:Bool):Wd:=
 match w.Zp[at'%w.Zp.length]? with
 | none=>w
 | some l=>if comes=true then QL (if stays=true then w else { w with Zp:=w.Zp.eraseIdx (at'%w.Zp.length) }) l else (if stays=true then w else { w with Zp:=w.Zp.eraseIdx (at'%w.Zp.length) })
def SW(n:Nd)(x:Cm):Nd:=if x∈n.Zk then n else { n with Zk:=n.Zk++[x] }
def Jz(w:Wd)(i:Nat)(data:List Nat):Wd:=
 if (w.Zb i).up=true then
  (if YR data (w.Zb i).ZA.length≠0 then { w with Yy:=fun j=>if j=i then w.Yy i+1 else w.Yy j }
  else if Xu data (w.Zb i).ZA.length∈(w.Zb i).ZA then
   { w with ZE:=w.ZE++[⟨(w.Zb i).me,(Xu data (w.Zb i).ZA.length).c,(Xu data (w.Zb i).ZA.length).s,OM (w.Zb i).store (Xu data (w.Zb i).ZA.length),Hb (w.Zb i).store (Xu data (w.Zb i).ZA.length)⟩] }
  else w.set i (SW (add (w.Zb i) (Xu data (w.Zb i).ZA.length)) (Xu data (w.Zb i).ZA.length)))
 else w
def act(w:Wd)(a:Ac):Wd:=
 if a.Z3=1 then Jz w a.ZS a.data
 else if a.Z3=2 then w.set a.ZS (lead (w.Zb a.ZS))
 else if a.Z3=3 then w.out a.ZS (step (w.Zb a.ZS))
 else if a.Z3=4\/a.Z3=5\/a.Z3=6 then pick w a.at' (decide (a.Z3≠5)) (decide (a.Z3=6))
 else if a.Z3=7 then w.Zp.foldl QL { w with Zp:=[] }
 else if a.Z3=8 then w.set a.ZS (Xy a.ZS (w.Zb a.ZS) a.Zf)
 else w.set a.ZS (started a.ZS (w.Zb a.ZS))
def QT:Wd:=⟨fun i=>Yu i true [] 0 JN,[],fun _=>0,[]⟩
def TK(l:List Ac):Wd:=l.foldl act QT
set_option maxRecDepth 100000
@[go_sem] theorem Rz:mK aw 107=U 25:=vM
@[go_sem] theorem Hc:mK aw 154=U 103:=vM
@[go_sem] theorem FP:mK aw 155=U 202:=vM
@[go_sem] theorem Ce:mK aw 202=U 203:=vM
@[go_sem] theorem Zas:mK aw 177=U 176:=vM
@[go_sem] theorem L4:tzv aw 25=U (a3 Oa.C.toArray):=vM
@[go_sem] theorem Zat:tzv aw 103=U (ae ag 0 0):=vM
@[go_sem] theorem Cf:tzv aw 202=U (.map ag):=vM
@[go_sem] theorem ZfU:tzv aw 203=U (a3 #[]):=vM
@[go_sem] theorem ZmT:tzv aw 176=U .nilFunc:=vM
@[go_sem] theorem ZH2:tkp aw 106=true:=vM
@[go_sem] theorem ZH3:tkm aw 202=true:=vM
@[go_sem] theorem ZH4:tkf aw 1=true:=vM
inductive Tg where
 | world
 | Zb
 | Zp
 | ZE
 | ZS (i:Nat)
 | Zi (i:Nat)
 | ZA (i:Nat)
 | Zx (i:Nat)
 | Zk (i:Nat)
 | Zg (i:Nat)
 | Zh (i:Nat)
 | ZI (i:Nat)
 | ZY (i:Nat)
 | Xb (i:Nat)
 | Ps (i:Nat) (s:Int)
 | Ja (i:Nat)
variable{S:Tg->Prop}
def Tg.of:Tg->Option Nat
 | .world=>ag
 | .Zb=>ag
 | .Zp=>ag
 | .ZE=>ag
 | .ZS i=>U i
 | .Zi i=>U i
 | .ZA i=>U i
 | .Zx i=>U i
 | .Zk i=>U i
 | .Zg i=>U i
 | .Zh i=>U i
 | .ZI i=>U i
 | .ZY i=>U i
 | .Xb i=>U i
 | .Ps i _=>U i
 | .Ja i=>U i
abbrev Ow:=Nat->Option Tg
variable{o o':Ow}
structure Im(o:Ow)(n:Nat)(h:Hp)(v:al)(m:Nat)(cs:List al):Prop where
 sl:Sl n h v m cs
 fits:∃p c,v=ae p m c/\m<=c
 free:∀b,Yf v=U b->b<h.size/\o b=ag
theorem Im.Zf{n m:Nat}(s:Im o n h v m cs)(k:Kp S o h o' h'):Im o' n h' v m cs:=by
 obtain⟨⟨p,c,rfl,hl,hcc⟩,⟨p',c',he,hm⟩,hf⟩:=s;simp only[Value.slice.injEq,true_and]at he;obtain⟨rfl,rfl⟩:=he;have hf':∀b,Yf (ae p m c)=U b->b<h.size/\o b=ag/\h'[b]? = h[b]? /\ o' b=ag:=fun b hb=>by
  obtain⟨h1,h2⟩:=hf b hb;obtain⟨h3,h4⟩:=k.Zf b h1 fun t ht=>by rw[h2]at ht;cases ht
  exact⟨h1,h2,h3,by rw[h4,h2]⟩
 refine⟨⟨p,c,rfl,hl,fun Y7=>?_⟩,⟨p,c,rfl,hm⟩,fun b hb=>⟨bS (hf' b hb).1 k.size,(hf' b hb).2.2.2⟩⟩;obtain⟨b,off,rfl,XL⟩:=hcc Y7;have mE:c≠0:=by
  intro e;have:m=0:=pA;subst this;exact Y7 (List.eq_nil_of_length_eq_zero (by simpa using hl))
 have hb:Yf (ae (U ⟨b,off,ag⟩) m c)=U b:=by simp[Yf,mE]
 refine⟨b,off,rfl,fun i hi=>?_⟩;have:=XL i hi;unfold hc at this ⊢;rw[(hf' b hb).2.2.1];exact this
theorem Im.WS{B n m:Nat}{E:TypeId}(s:UO B E n h v m cs)(hd:∀b,B<=b->o b=ag):Im o n h v m cs:=by
 refine⟨s.sl,?_,fun b hb=>?_⟩
 .rcases s with⟨⟨p,rfl⟩,rfl,_⟩|⟨b,cap,sp,_,rfl,_,_,_,hm⟩
  .exact⟨p,0,rfl,a6 _⟩
  .exact⟨_,cap,rfl,hm⟩
 .exact⟨s.lt b hb,hd b (s.ZZ b hb)⟩
theorem Im.nil(o:Ow)(n:Nat)(h:Hp)(p:Option Addr):Im o n h (ae p 0 0) 0 []:=
 ⟨⟨p,0,rfl,IQ,fun Y7=>absurd rfl Y7⟩,⟨p,0,rfl,a6 _⟩,fun b hb=>by cases p<;>simp[Yf]at hb⟩
def TY(o:Ow)(h:Hp)(v:al)(l:List Vt):Prop:=Im o 8 h v (O l) (ZU Zv l)
def Pv(o:Ow)(h:Hp)(v:al)(l:List Nat):Prop:=Im o 1 h v (O l) (l.map bv)/\∀x∈l,x<256
theorem TY.ts{l:List Vt}(s:TY o h v l):Ts Zv 8 h v l:=⟨Im.sl s⟩
theorem Pv.bs{l:List Nat}(s:Pv o h v l):Bs h v l:=⟨s.1.sl,s.2⟩
theorem TY.Zf{l:List Vt}(s:TY o h v l)(k:Kp S o h o' h'):TY o' h' v l:=Im.Zf s k
theorem Pv.Zf{l:List Nat}(s:Pv o h v l)(k:Kp S o h o' h'):Pv o' h' v l:=⟨s.1.Zf k,s.2⟩
def XV(l:YH)(w:al):List al:=[Q J l.Z3,Q J l.Jw,Q J l.to,Q J l.b.r,Q J l.b.n,Q J l.v.Zu,Q J l.v.b.r,Q J l.v.b.n,Q J l.v.k,Q J l.v.c,Q J l.v.s,Q J l.v.nm,Q J l.v.v,w]
def Hd(x:YH × al):List al:=XV x.1 x.2
def FQ(t:Ob):List al:=[Q J t.ZS,Q J t.c,Q J t.s,Q J t.code,Q J t.val]
def Zz(b:Nat):al:=aN (U ⟨b,0,ag⟩)
def Sy(x:Cm):al:=a3 x.C.toArray
def U8(o:Ow)(t:Tg)(h:Hp)(v:al)(l:List Cm):Prop:=XB o t 25 5 h v (O l) (ZU JZ.C l)
def WE(o:Ow)(t:Tg)(h:Hp)(v:al)(l:List YH):Prop:=
 ∃xs:List (YH × al),xs.map (·.1)=l/\XB o t 135 14 h v (O xs) (ZU Hd xs)/\∀x∈xs,TY o h x.2 x.1.vs
theorem U8.Zf{t:Tg}(s:U8 o t h v l)(k:Kp S o h o' h')(hn:¬S t):U8 o' t h' v l:=XB.Zf s k hn
theorem WE.Zf{t:Tg}{l:List YH}(s:WE o t h v l)(k:Kp S o h o' h')(hn:¬S t):WE o' t h' v l:=by
 obtain⟨xs,h1,h2,h3⟩:=s;exact⟨xs,h1,h2.Zf k hn,fun x hx=>(h3 x hx).Zf k⟩
def U9(o:Ow)(t:Tg)(h:Hp)(b:Nat)(l:List (Int × al)):Prop:=o b=U t/\h[b]? = U (Jt l)
theorem U9.Zf{t:Tg}{b:Nat}{l:List (Int × al)}(s:U9 o t h b l)(k:Kp S o h o' h')(hn:¬S t):U9 o' t h' b l:=by
 have NY:∀u,o b=U u->¬S u:=fun u hu=>by rw[s.1]at hu;cases hu;exact hn
 exact⟨by rw[k.Zq s.2 NY,s.1],k.get s.2 NY⟩
def WF(o:Ow)(t:Tg)(h:Hp)(b:Nat)(x:Obj):Prop:=o b=U t/\h[b]? = U x
theorem WF.Zf{t:Tg}{b:Nat}{x:Obj}(s:WF o t h b x)(k:Kp S o h o' h')(hn:¬S t):WF o' t h' b x:=by
 have NY:∀u,o b=U u->¬S u:=fun u hu=>by rw[s.1]at hu;cases hu;exact hn
 exact⟨by rw[k.Zq s.2 NY,s.1],k.get s.2 NY⟩
def Yb(o:Ow)(h:Hp)(b:Nat)(x:Obj):Prop:=o b=ag/\h[b]? = U x
theorem Yb.Zf{b:Nat}{x:Obj}(s:Yb o h b x)(k:Kp S o h o' h'):Yb o' h' b x:=(k.free s.2 s.1).symm
def WT(o:Ow)(h:Hp)(pv:List (Int × al))(pr:List (Int × List Vt)):Prop:=aT (fun x y=>x.1=y.1/\TY o h x.2 y.2) pv pr
theorem WT.Zf{pv:List (Int × al)}{pr:List (Int × List Vt)}(s:WT o h pv pr)(k:Kp S o h o' h'):WT o' h' pv pr:=by
 induction s with
 | nil=>exact .nil
 | cons a _ ih=>exact .cons ⟨a.1,a.2.Zf k⟩ ih
def HT(l:List (Int × Unit)):List (Int × al):=VC (fun _=>a3 #[]) l
def WH(o:Ow)(i:Nat)(h:Hp)(sv:List (Int × Nat))(vt:List (Int × List (Int × Unit))):Prop:=aT (fun x y=>x.1=y.1/\U9 o (.Ps i y.1) h x.2 (HT y.2)) sv vt
theorem WH.Zf{i:Nat}{sv:List (Int × Nat)}{vt:List (Int × List (Int × Unit))}(s:WH o i h sv vt)(k:Kp S o h o' h')(hn:∀s,¬S (.Ps i s)):WH o' i h' sv vt:=by
 induction s with
 | nil=>exact .nil
 | cons a _ ih=>exact .cons ⟨a.1,a.2.Zf k (hn _)⟩ ih
def mpV(b:Nat):al:=.map (U b)
structure RA where
 rb:Nat
 pb:Nat
 qb:Nat
 vb:Nat
 pv:List (Int × al)
 sv:List (Int × Nat)
def jX(r:XE)(a:RA):List al:=[Q J r.b.r,Q J r.b.n,.map (U a.pb),aD r.XU,.map (U a.qb),.map (U a.vb)]
structure XA(o:Ow)(i:Nat)(h:Hp)(a:RA)(r:XE):Prop where
 ZZ:WF o (.Zh i) h a.rb (Z (jX r a).toArray 157)
 ZI:U9 o (.ZI i) h a.pb a.pv
 OO:WT o h a.pv r.ZI
 ZY:U9 o (.ZY i) h a.qb (VC Sy r.ZY)
 Xb:U9 o (.Xb i) h a.vb (VC mpV a.sv)
 RC:WH o i h a.sv r.Xb
 keys:(a.sv.map (·.1)).Nodup
def JY(i:Nat)(t:Tg):Prop:=t=.Zh i\/t=.ZI i\/t=.ZY i\/t=.Xb i\/∃s,t=.Ps i s
theorem XA.Zf{i:Nat}{a:RA}{r:XE}(s:XA o i h a r)(k:Kp S o h o' h')(hn:∀t,JY i t->¬S t):XA o' i h' a r:=
 ⟨s.ZZ.Zf k (hn _ (.inl rfl)),s.ZI.Zf k (hn _ (.inr (.inl rfl))),s.OO.Zf k,s.ZY.Zf k (hn _ (.inr (.inr (.inl rfl)))),s.Xb.Zf k (hn _ (.inr (.inr (.inr (.inl rfl))))),s.RC.Zf k (fun s=>hn _ (.inr (.inr (.inr (.inr ⟨s,rfl⟩))))),s.keys⟩
def MG:Option RA->al
 | some a=>Zz a.rb
 | none=>aN ag
def ZdY(o:Ow)(i:Nat)(h:Hp):Option RA->Option XE->Prop
 | some a,U r=>XA o i h a r
 | none,ag=>True
 | _,_=>False
theorem ZdY.Zf{i:Nat}{a:Option RA}{r:Option XE}(s:ZdY o i h a r)(k:Kp S o h o' h')(hn:∀t,JY i t->¬S t):ZdY o' i h' a r:=by
 cases a<;>cases r<;>first|exact s|exact XA.Zf s k hn
def Sa(f:FuncId)(l:List Nat):al:=.func (.func f) #[] (l.map Zz).toArray
def Zau(o:Ow)(h:Hp)(wb nb:Nat)(v:al)(to:Int)(b:YA)(vs:List Vt):Prop:=
 ∃b3 b4 b5 b7 l w5 w,v=Sa 106 [b3,b4,b5,b7]/\Yb o h b3 (Z [Zz wb].toArray 91)/\Yb o h b4 (Z [Zz nb].toArray 98) /\
  Yb o h b5 (Z (XV l w5).toArray 135)/\l.Jw=to/\l.b=b/\Yb o h b7 (Z [w].toArray 103)/\TY o h w vs
def Zav(o:Ow)(h:Hp)(wb nb:Nat)(v:al)(to:Int)(x:Vt):Prop:=
 ∃b3 b4 b5 l w5,v=Sa 111 [b3,b4,b5]/\Yb o h b3 (Z [Zz wb].toArray 91)/\Yb o h b4 (Z [Zz nb].toArray 98) /\
  Yb o h b5 (Z (XV l w5).toArray 135)/\l.Jw=to/\l.v=x
theorem Zau.Zf{wb nb:Nat}{to:Int}{b:YA}{vs:List Vt}(s:Zau o h wb nb v to b vs)(k:Kp S o h o' h'):Zau o' h' wb nb v to b vs:=by
 obtain⟨b3,b4,b5,b7,l,w5,w,h1,h2,h3,h4,h5,h6,h7,h8⟩:=s;exact⟨b3,b4,b5,b7,l,w5,w,h1,h2.Zf k,h3.Zf k,h4.Zf k,h5,h6,h7.Zf k,h8.Zf k⟩
theorem Zav.Zf{wb nb:Nat}{to:Int}{x:Vt}(s:Zav o h wb nb v to x)(k:Kp S o h o' h'):Zav o' h' wb nb v to x:=by
 obtain⟨b3,b4,b5,l,w5,h1,h2,h3,h4,h5,h6⟩:=s;exact⟨b3,b4,b5,l,w5,h1,h2.Zf k,h3.Zf k,h4.Zf k,h5,h6⟩
def OP(o:Ow)(h:Hp)(b:Nat)(a:UP):Prop:=∃w,Yb o h b (Z (XC a.p w).toArray 105)/\TY o h w a.l
theorem OP.Zf{b:Nat}{a:UP}(s:OP o h b a)(k:Kp S o h o' h'):OP o' h' b a:=by
 obtain⟨w,h1,h2⟩:=s;exact⟨w,h1.Zf k,h2.Zf k⟩
def ZmU(o:Ow)(h:Hp)(i nb:Nat)(ra:Option RA)(v:al)(a:UP)(vs:List Vt)(cur:Bool):Prop:=
 ∃b6 b4 b7 b5 w rb,v=Sa 115 [b6,b4,b7,b5]/\OP o h b6 a/\Yb o h b4 (Z [Zz nb].toArray 98)/\Yb o h b7 (Z [w].toArray 103)/\TY o h w vs /\
  Yb o h b5 (Z [Zz rb].toArray 106) /\
  (if cur=true then ∃a,ra=U a/\a.rb=rb else ∃cs pb pv,WF o (.Ja i) h rb (Z cs 157)/\cs[2]? = U (.map (U pb))/\U9 o (.Ja i) h pb pv)
def Vu(o:Ow)(h:Hp)(wb i nb:Nat)(ra:Option RA):al->Option Kv->Prop
 | v,ag=>v=.nilFunc
 | v,U (.VN a to b vs)=>∃b6 b4 b9 u,v=Sa 108 [b6,b4,b9]/\OP o h b6 a/\Yb o h b4 (Z [Zz nb].toArray 98)/\Yb o h b9 (Z [u].toArray 1)/\Zau o h wb nb u to b vs
 | v,U (.TX a to x)=>∃b6 b4 b9 u,v=Sa 114 [b6,b4,b9]/\OP o h b6 a/\Yb o h b4 (Z [Zz nb].toArray 98)/\Yb o h b9 (Z [u].toArray 1)/\Zav o h wb nb u to x
 | v,U (.Zq a vs cur)=>ZmU o h i nb ra v a vs cur
theorem Vu.Zf{wb i nb:Nat}{ra:Option RA}{p:Option Kv}(s:Vu o h wb i nb ra v p)(k:Kp S o h o' h')(hn:¬S (.Ja i)):Vu o' h' wb i nb ra v p:=by
 match p,s with
 | none,s=>exact s
 | some (.VN a to b vs),⟨b6,b4,b9,u,h1,h2,h3,h4,h5⟩=>exact⟨b6,b4,b9,u,h1,h2.Zf k,h3.Zf k,h4.Zf k,h5.Zf k⟩
 | some (.TX a to x),⟨b6,b4,b9,u,h1,h2,h3,h4,h5⟩=>exact⟨b6,b4,b9,u,h1,h2.Zf k,h3.Zf k,h4.Zf k,h5.Zf k⟩
 | some (.Zq a vs cur),⟨b6,b4,b7,b5,w,rb,h1,h2,h3,h4,h5,h6,h7⟩=>
  refine⟨b6,b4,b7,b5,w,rb,h1,h2.Zf k,h3.Zf k,h4.Zf k,h5.Zf k,h6.Zf k,?_⟩
  cases cur with
  | true=>exact h7
  | false=>
   obtain⟨cs,pb,pv,g1,g2,g3⟩:=h7;exact⟨cs,pb,pv,g1.Zf k hn,g2,g3.Zf k hn⟩
structure NA where
 data:al
 XW:al
 Zh:Option RA
 Zi:Nat
 ZA:al
 Zx:al
 Zk:al
 Zg:al
 Zs:al
def VO(n:Nd)(a:NA):List al:=[Q J n.me,aD n.up,a.data,Q J n.Y4,Q J n.Zq.p.r,Q J n.Zq.p.n,a.XW,Q J n.Y1.r,Q J n.Y1.n,MG a.Zh,.map (U a.Zi),a.ZA]++(n.store++[a.Zx,a.Zk,a.Zg,a.Zs,Q J n.Yv])
def Jh(n:Nd)(a:NA):Obj:=Z (VO n a).toArray 109
structure L6(cs:List al):Prop where
 fit:Xe JR cs=true
 num:∀i,i<32->nth cs i=U (Q J (ci cs i))
 yes:∀i,32<=i->i<40->nth cs i=U (aD (cb cs i))
structure Yi(o:Ow)(h:Hp)(wb i nb:Nat)(a:NA)(n:Nd):Prop where
 data:Pv o h a.data n.data
 XW:TY o h a.XW n.Zq.l
 Zh:ZdY o i h a.Zh n.Zh
 Zi:U9 o (.Zi i) h a.Zi (VC Sy n.Zi)
 ZA:U8 o (.ZA i) h a.ZA n.ZA
 Zx:U8 o (.Zx i) h a.Zx n.Zx
 Zk:U8 o (.Zk i) h a.Zk n.Zk
 Zg:WE o (.Zg i) h a.Zg n.Zg
 Zs:Vu o h wb i nb a.Zh a.Zs n.Zs
 store:L6 n.store
structure Z6(o:Ow)(h:Hp)(wb i nb:Nat)(a:NA)(n:Nd):Prop where
 ZZ:WF o (.ZS i) h nb (Jh n a)
 pt:Yi o h wb i nb a n
theorem If{i:Nat}{t:Tg}(h:JY i t):t.of=U i:=by
 rcases h with rfl|rfl|rfl|rfl|⟨s,rfl⟩<;>rfl
section
variable {S:Tg->Prop} {o o':Ow} {h h':Hp} {wb i nb:Nat} {a:NA} {n:Nd}
theorem Yi.Zf(s:Yi o h wb i nb a n)(k:Kp S o h o' h')(hn:∀t,S t->t.of≠U i\/t=.ZS i):Yi o' h' wb i nb a n:=by
 have q:∀t:Tg,t.of=U i->t ≠ .ZS i->¬S t:=fun t ht Y7 hs=>(hn t hs).elim (fun q=>q ht) Y7;exact⟨s.data.Zf k,s.XW.Zf k,s.Zh.Zf k (fun t ht=>q t (If ht) (by rcases ht with rfl|rfl|rfl|rfl|⟨z,rfl⟩<;>intro e<;>cases e)),s.Zi.Zf k (q _ rfl Va),s.ZA.Zf k (q _ rfl Va),s.Zx.Zf k (q _ rfl Va),s.Zk.Zf k (q _ rfl Va),s.Zg.Zf k (q _ rfl Va),s.Zs.Zf k (q _ rfl Va),s.store⟩
theorem Z6.Zf(s:Z6 o h wb i nb a n)(k:Kp S o h o' h')(hn:∀t,S t->t.of≠U i):Z6 o' h' wb i nb a n:=
 ⟨s.ZZ.Zf k fun q=>hn _ q rfl,s.pt.Zf k fun t ht=>.inl (hn t ht)⟩
theorem Yi.put(s:Yi o h wb i nb a n)(d:Vz o h){x:Obj}(b:WF o (.ZS i) h nb x):Z6 o (h.setIfInBounds nb (Jh n a)) wb i nb a n:=
 ⟨⟨b.1,ZV b.2⟩,s.Zf ((Kp.refl d (fun t=>t=.ZS i)).set b.1 rfl _) fun t ht=>.inr ht⟩
theorem Yi.write(s:Yi o h wb i nb a n)(d:Vz o h){x:Obj}(b:WF o (.ZS i) h nb x){e:Option Hp}(w:e=U (h.setIfInBounds nb (Jh n a))):∃g,e=U g/\Z6 o g wb i nb a n/\Kp (fun t=>t=.ZS i) o h o g:=
 ⟨_,w,s.put d b,(Kp.refl d (fun t=>t=.ZS i)).set b.1 rfl _⟩
theorem Yi.Cg(s:Yi o h wb i nb a n)(k:Kp (fun t=>t=.Zx i) o h o' h')(hv:U8 o' (.Zx i) h' v l):Yi o' h' wb i nb { a with Zx:=v } { n with Zx:=l }:=
 ⟨s.data.Zf k,s.XW.Zf k,s.Zh.Zf k (fun t ht=>by rcases ht with rfl|rfl|rfl|rfl|⟨z,rfl⟩<;>intro e<;>cases e),s.Zi.Zf k Va,s.ZA.Zf k Va,hv,s.Zk.Zf k Va,s.Zg.Zf k Va,s.Zs.Zf k Va,s.store⟩
theorem Yi.ZdZ(s:Yi o h wb i nb a n)(k:Kp (fun t=>t=.ZA i) o h o' h')(hv:U8 o' (.ZA i) h' v l):Yi o' h' wb i nb { a with ZA:=v } { n with ZA:=l }:=
 ⟨s.data.Zf k,s.XW.Zf k,s.Zh.Zf k (fun t ht=>by rcases ht with rfl|rfl|rfl|rfl|⟨z,rfl⟩<;>intro e<;>cases e),s.Zi.Zf k Va,hv,s.Zx.Zf k Va,s.Zk.Zf k Va,s.Zg.Zf k Va,s.Zs.Zf k Va,s.store⟩
theorem Yi.He(s:Yi o h wb i nb a n)(k:Kp (fun t=>t=.Zk i) o h o' h')(hv:U8 o' (.Zk i) h' v l):Yi o' h' wb i nb { a with Zk:=v } { n with Zk:=l }:=
 ⟨s.data.Zf k,s.XW.Zf k,s.Zh.Zf k (fun t ht=>by rcases ht with rfl|rfl|rfl|rfl|⟨z,rfl⟩<;>intro e<;>cases e),s.Zi.Zf k Va,s.ZA.Zf k Va,s.Zx.Zf k Va,hv,s.Zg.Zf k Va,s.Zs.Zf k Va,s.store⟩
theorem Yi.sO(s:Yi o h wb i nb a n)(k:Kp (fun t=>t=.Zg i) o h o' h'){l:List YH}(hv:WE o' (.Zg i) h' v l):Yi o' h' wb i nb { a with Zg:=v } { n with Zg:=l }:=
 ⟨s.data.Zf k,s.XW.Zf k,s.Zh.Zf k (fun t ht=>by rcases ht with rfl|rfl|rfl|rfl|⟨z,rfl⟩<;>intro e<;>cases e),s.Zi.Zf k Va,s.ZA.Zf k Va,s.Zx.Zf k Va,s.Zk.Zf k Va,hv,s.Zs.Zf k Va,s.store⟩
theorem Yi.sQ(s:Yi o h wb i nb a n)(k:Kp (fun t=>t=.Zi i) o h o' h'){v:Nat}{l:List (Int × Cm)}(hv:U9 o' (.Zi i) h' v (VC Sy l)):Yi o' h' wb i nb { a with Zi:=v } { n with Zi:=l }:=
 ⟨s.data.Zf k,s.XW.Zf k,s.Zh.Zf k (fun t ht=>by rcases ht with rfl|rfl|rfl|rfl|⟨z,rfl⟩<;>intro e<;>cases e),hv,s.ZA.Zf k Va,s.Zx.Zf k Va,s.Zk.Zf k Va,s.Zg.Zf k Va,s.Zs.Zf k Va,s.store⟩
theorem Yi.Wa(s:Yi o h wb i nb a n)(k:Kp (JY i) o h o' h'){ra ra':RA}{r':XE}(hr:a.Zh=U ra)(HU:ra'.rb=ra.rb)(hv:XA o' i h' ra' r'):Yi o' h' wb i nb { a with Zh:=U ra' } { n with Zh:=U r' }:=by
 have q:∀t,t.of=U i->(¬ ∃u,t=u/\JY i u)->¬JY i t:=fun t _ h2 h3=>h2 ⟨t,rfl,h3⟩;have e:∀t:Tg,(t=.Zi i\/t=.ZA i\/t=.Zx i\/t=.Zk i\/t=.Zg i\/t=.Ja i)->¬JY i t:=by
  intro t ht hr;rcases ht with rfl|rfl|rfl|rfl|rfl|rfl<;>rcases hr with e|e|e|e|⟨s,e⟩<;>cases e
 refine⟨s.data.Zf k,s.XW.Zf k,hv,s.Zi.Zf k (e _ IQ),s.ZA.Zf k (e _ IQ),s.Zx.Zf k (e _ IQ),s.Zk.Zf k (e _ IQ),s.Zg.Zf k (e _ IQ),?_,s.store⟩;have hp:=s.Zs.Zf k (e _ IQ);show Vu o' h' wb i nb (U ra') a.Zs n.Zs;rw[hr]at hp
 match hn:n.Zs,hp with
 | none,hp=>exact hp
 | some (.VN _ _ _ _),hp=>exact hp
 | some (.TX _ _ _),hp=>exact hp
 | some (.Zq _ _ cur),⟨b6,b4,b7,b5,w,rb,h1,h2,h3,h4,h5,h6,h7⟩=>
  refine⟨b6,b4,b7,b5,w,rb,h1,h2,h3,h4,h5,h6,?_⟩
  cases cur with
  | false=>exact h7
  | true=>
   obtain⟨c,hc,hcr⟩:=h7;obtain rfl:=Option.some.inj hc;exact⟨ra',rfl,HU.trans hcr⟩
end
structure WA where
 Zb:al
 Zp:al
 ZE:al
def Jd(Yy:Nat->Int)(a:WA):List al:=[a.Zb,a.Zp,Q J 0,aD false,aD false,aD false,aD false,aD false,ae ag 0 0,Q J (Yy 0),Q J (Yy 1),Q J (Yy 2),Q J (Yy 3),Q J (Yy 4),a.ZE]
structure Z1(o:Ow)(h:Hp)(wb:Nat)(nb:Nat->Nat)(a:WA)(fl:List YH)(Yy:Nat->Int)(ZE:List Ob):Prop where
 ZZ:WF o .world h wb (Z (Jd Yy a).toArray 97)
 Zb:XB o .Zb 98 1 h a.Zb 5 [Zz (nb 0),Zz (nb 1),Zz (nb 2),Zz (nb 3),Zz (nb 4)]
 Zp:WE o .Zp h a.Zp fl
 ZE:XB o .ZE 152 5 h a.ZE (O ZE) (ZU FQ ZE)
theorem Z1.Zf{wb:Nat}{nb:Nat->Nat}{a:WA}{fl:List YH}{Yy:Nat->Int}{ZE:List Ob}(s:Z1 o h wb nb a fl Yy ZE)(k:Kp S o h o' h')(hn:∀t,S t->t.of≠ag):Z1 o' h' wb nb a fl Yy ZE:=
 ⟨s.ZZ.Zf k fun q=>hn _ q rfl,s.Zb.Zf k fun q=>hn _ q rfl,s.Zp.Zf k fun q=>hn _ q rfl,s.ZE.Zf k fun q=>hn _ q rfl⟩
def Wy(t:Tg):Prop:=False
section
variable {S:Tg->Prop} {o o':Ow} {h h':Hp}
theorem ZX(d:Vz o h)(b:Zj h.size h h'):Kp Wy o h o h':=Kp.G7 d b _
theorem Z0(k:Kp Wy o h o' h'):Kp S o h o' h':=k.mono fun _ q=>q.elim
theorem Z6.Zo{wb i nb:Nat}{a:NA}{n:Nd}(s:Z6 o h wb i nb a n)(k:Kp Wy o h o' h'):Z6 o' h' wb i nb a n:=s.Zf k fun _ q=>q.elim
theorem Z1.Zo{wb:Nat}{nb:Nat->Nat}{a:WA}{fl:List YH}{Yy:Nat->Int}{ZE:List Ob}(s:Z1 o h wb nb a fl Yy ZE)(k:Kp Wy o h o' h'):Z1 o' h' wb nb a fl Yy ZE:=s.Zf k fun _ q=>q.elim
theorem Yw(d:Vz o h)(x:Obj):Kp Wy o h o (h.push x):=(Kp.refl d _).push x
end
structure dp(o:Ow)(h:Hp):Prop where
 tk:Tk h
 tn:AP 1 niv PP h
 fk:o 0=ag
 fn:o 1=ag
theorem Aj{g:Nat}{f:Nat->al}{l:List Nat}(t:AP g f l h)(hf:o g=ag)(k:Kp S o h o' h'):AP g f l h'/\o' g=ag:=by
 obtain⟨h1,h2⟩:=k.Zf g t.1 fun t ht=>by rw[hf]at ht;cases ht
 refine⟨⟨bS t.1 k.size,fun i hi=>?_⟩,by rw[h2,hf]⟩;have:=t.2 i hi;unfold hc at this ⊢;rw[h1];exact this
theorem dp.Zf(t:dp o h)(k:Kp S o h o' h'):dp o' h':=
 ⟨(Aj t.tk t.fk k).1,(Aj t.tn t.fn k).1,(Aj t.tk t.fk k).2,(Aj t.tn t.fn k).2⟩
theorem L6.len(s:L6 cs):(O cs)=40:=by
 have:=Ys s.fit;rw[this];rfl
theorem L6.one(s:L6 cs):cs.all YE=true:=Tv s.fit
theorem Zaw(a:Option RA):YE (MG a)=true:=by cases a<;>rfl
section
variable {h:Hp} {nb:Nat} {n:Nd} {a:NA}
structure ZhY(h:Hp)(nb:Nat)(n:Nd)(a:NA):Prop where
 me:hc h ⟨nb,0,ag⟩=U (Q J n.me)
 up:hc h ⟨nb,1,ag⟩=U (aD n.up)
 tape:rd h ⟨nb,2,ag⟩ 2=U [a.data,Q J n.Y4]
 Zq:rd h ⟨nb,4,ag⟩ 3=U [Q J n.Zq.p.r,Q J n.Zq.p.n,a.XW]
 dq:rd h ⟨nb,4,ag⟩ 2=U [Q J n.Zq.p.r,Q J n.Zq.p.n]
 Zvq:hc h ⟨nb,4,ag⟩=U (Q J n.Zq.p.r)
 ZH6:hc h ⟨nb,5,ag⟩=U (Q J n.Zq.p.n)
 XW:hc h ⟨nb,6,ag⟩=U a.XW
 Y1:rd h ⟨nb,7,ag⟩ 2=U [Q J n.Y1.r,Q J n.Y1.n]
 ZhZ:hc h ⟨nb,7,ag⟩=U (Q J n.Y1.r)
 Zh:hc h ⟨nb,9,ag⟩=U (MG a.Zh)
 Zi:hc h ⟨nb,10,ag⟩=U (.map (U a.Zi))
 ZA:hc h ⟨nb,11,ag⟩=U a.ZA
 store:rd h ⟨nb,12,ag⟩ 40=U n.store
 Zx:hc h ⟨nb,52,ag⟩=U a.Zx
 Zk:hc h ⟨nb,53,ag⟩=U a.Zk
 Zg:hc h ⟨nb,54,ag⟩=U a.Zg
 Zs:hc h ⟨nb,55,ag⟩=U a.Zs
 Yv:hc h ⟨nb,56,ag⟩=U (Q J n.Yv)
theorem Ch(hs:(O n.store)=40):(VO n a).length=57:=by
 unfold VO;rw[am,am,hs];rfl
theorem OQ(hs:(O n.store)=40)(k:Nat):nth (VO n a) (52+k)=nth [a.Zx,a.Zk,a.Zg,a.Zs,Q J n.Yv] k:=by
 unfold VO;rw[YU,YU,bh VL,bh VL]
 congr 1
 simp;omega
theorem ZR(H:h[nb]? = U (Jh n a))(hs:(O n.store)=40):ZhY h nb n a:=by
 have l57:=Ch (a:=a) hs;have c:∀k,hc h ⟨nb,k,ag⟩=nth (VO n a) k:=fun k=>Zn H;have r:∀k m,k+m<=57->rd h ⟨nb,k,ag⟩ m=U (((VO n a).drop k).take m):=fun k m hk=>YL H (by rw[l57];exact hk);refine⟨c 0,c 1,r 2 2 pA,r 4 3 pA,r 4 2 pA,c 4,c 5,c 6,r 7 2 pA,c 7,c 9,c 10,c 11,?_,(c 52).trans (OQ hs 0),(c 53).trans (OQ hs 1),(c 54).trans (OQ hs 2),(c 55).trans (OQ hs 3),(c 56).trans (OQ hs 4)⟩;rw[r 12 40 pA]
 congr 1
 unfold VO;rw[List.drop_append_of_le_length IQ];simp only[List.drop_succ_cons,List.drop_nil,List.drop_zero,bw];rw[<-hs,List.take_left'];rfl
structure Zh0(h:Hp)(nb:Nat)(n:Nd)(a:NA):Prop where
 up:∀v,QX h ⟨nb,1,ag⟩ (aD v)=U (h.setIfInBounds nb (Jh { n with up:=v } a))
 tape:∀d s,YE d=true->wr h ⟨nb,2,ag⟩ [d,Q J s]=U (h.setIfInBounds nb (Jh { n with Y4:=s } { a with data:=d }))
 Zq:∀r k w,YE w=true->wr h ⟨nb,4,ag⟩ [Q J r,Q J k,w]=U (h.setIfInBounds nb (Jh { n with Zq:=⟨⟨r,k⟩,n.Zq.l⟩ } { a with XW:=w }))
 Y1:∀r k,wr h ⟨nb,7,ag⟩ [Q J r,Q J k]=U (h.setIfInBounds nb (Jh { n with Y1:=⟨r,k⟩ } a))
 Zh:∀b,QX h ⟨nb,9,ag⟩ (MG b)=U (h.setIfInBounds nb (Jh n { a with Zh:=b }))
 ZA:∀v,YE v=true->QX h ⟨nb,11,ag⟩ v=U (h.setIfInBounds nb (Jh n { a with ZA:=v }))
 store:∀cs:List al,(O cs)=40->cs.all YE=true->wr h ⟨nb,12,ag⟩ cs=U (h.setIfInBounds nb (Jh { n with store:=cs } a))
 Zx:∀v,YE v=true->QX h ⟨nb,52,ag⟩ v=U (h.setIfInBounds nb (Jh n { a with Zx:=v }))
 Zk:∀v,YE v=true->QX h ⟨nb,53,ag⟩ v=U (h.setIfInBounds nb (Jh n { a with Zk:=v }))
 Zg:∀v,YE v=true->QX h ⟨nb,54,ag⟩ v=U (h.setIfInBounds nb (Jh n { a with Zg:=v }))
 Zs:∀v,YE v=true->QX h ⟨nb,55,ag⟩ v=U (h.setIfInBounds nb (Jh n { a with Zs:=v }))
 Yv:∀k,QX h ⟨nb,56,ag⟩ (Q J k)=U (h.setIfInBounds nb (Jh { n with Yv:=k } a))
theorem set_tail(pre mid l:List al)(k:Nat)(v:al)(hk:(O pre)+(O mid)=52):(pre++(mid++l)).set (52+k) v=pre++(mid++l.set k v):=by
 rw[bB _ _ pA,bB _ _ pA]
 congr 3
 omega
theorem XM(H:h[nb]? = U (Jh n a))(hs:(O n.store)=40):Zh0 h nb n a:=by
 have l57:=Ch (a:=a) hs;have w1:∀(k:Nat) (v:al) (n':Nd) (a':NA),k<57->YE v=true->(VO n a).set k v=VO n' a'->QX h ⟨nb,k,ag⟩ v=U (h.setIfInBounds nb (Jh n' a')):=fun k v n' a' hk hv he=>by
  rw[Xj H,if_pos ⟨by rw[l57];exact hk,hv⟩,he];rfl
 have w:∀(k:Nat) (vs:List al) (n':Nd) (a':NA),k+(O vs)<=57->vs.all YE=true->Xd (VO n a) k vs=VO n' a'->wr h ⟨nb,k,ag⟩ vs=U (h.setIfInBounds nb (Jh n' a')):=fun k vs n' a' hk hv he=>by
  rw[Ye H,if_pos ⟨by rw[l57];exact hk,hv⟩,he];rfl
 refine⟨fun v=>w1 _ _ _ _ pA rfl rfl,fun d s hd=>w _ _ _ _ IQ (by rw[ch,hd];rfl) rfl,fun r k v hv=>w _ _ _ _ IQ (by simp only[ch,hv];rfl) rfl,fun r k=>w _ _ _ _ IQ (by simp[YE]) rfl,fun b=>w1 _ _ _ _ pA (Zaw b) rfl,fun v hv=>w1 _ _ _ _ pA hv rfl,fun cs hl X3=>w _ _ _ _ pA X3 ?_,
  fun v hv=>w1 _ _ _ _ pA hv ?_,fun v hv=>w1 _ _ _ _ pA hv ?_,fun v hv=>w1 _ _ _ _ pA hv ?_,fun v hv=>w1 _ _ _ _ pA hv ?_,fun k=>w1 _ _ _ _ pA rfl ?_⟩
 .unfold VO;exact Sj rfl (by rw[hl,hs])
 all_goals
  unfold VO
  first
   | exact set_tail _ _ _ 0 _ (by rw[hs];rfl)
   | exact set_tail _ _ _ 1 _ (by rw[hs];rfl)
   | exact set_tail _ _ _ 2 _ (by rw[hs];rfl)
   | exact set_tail _ _ _ 3 _ (by rw[hs];rfl)
   | exact set_tail _ _ _ 4 _ (by rw[hs];rfl)
end
section
variable {h:Hp} {wb:Nat} {Yy:Nat->Int} {a:WA}
structure Zd0(h:Hp)(wb:Nat)(Yy:Nat->Int)(a:WA):Prop where
 Zb:hc h ⟨wb,0,ag⟩=U a.Zb
 Zp:hc h ⟨wb,1,ag⟩=U a.Zp
 ZE:hc h ⟨wb,14,ag⟩=U a.ZE
 out:rd h ⟨wb,2,ag⟩ 13=U [Q J 0,aD false,aD false,aD false,aD false,aD false,ae ag 0 0,Q J (Yy 0),Q J (Yy 1),Q J (Yy 2),Q J (Yy 3),Q J (Yy 4),a.ZE]
 Ak:∀v,YE v=true->QX h ⟨wb,1,ag⟩ v=U (h.setIfInBounds wb (Z (Jd Yy { a with Zp:=v }).toArray 97))
 ZfV:∀v,YE v=true->QX h ⟨wb,14,ag⟩ v=U (h.setIfInBounds wb (Z (Jd Yy { a with ZE:=v }).toArray 97))
 Zh1:∀v,YE v=true->QX h ⟨wb,0,ag⟩ v=U (h.setIfInBounds wb (Z (Jd Yy { a with Zb:=v }).toArray 97))
theorem XX(H:h[wb]? = U (Z (Jd Yy a).toArray 97)):Zd0 h wb Yy a:=by
 refine⟨Zn H,Zn H,Zn H,YL H (by simp[Jd]),fun v hv=>?_,fun v hv=>?_,fun v hv=>?_⟩
 all_goals
  rw[Xj H,if_pos ⟨by simp[Jd],hv⟩];rfl
end
theorem Im.ZP{n:Nat}{m:Nat}(s:Im o n h v m cs):∃p c,v=ae p m c:=by
 obtain⟨p,c,h,_⟩:=s.fits;exact⟨p,c,h⟩
theorem Tu{α:Type}(enc:α->List al)(x:α):ZU enc [x]=enc x:=by simp[ZU]
def nH(t:Tg):Prop:=t=.world\/t=.Zp
theorem V3(h:Hp)(o:Ow)(wb nb:Nat)(YN:Nat->Nat)(me:Nat)(Xw:WA)(fl:List YH)(Yy:Nat->Int)(ZE:List Ob)(to:Int)(l:YH)(w:al)(d:Vz o h)(W:Z1 o h wb YN Xw fl Yy ZE)(Dp:hc h ⟨nb,0,ag⟩=U (Q J me))(T4:nb<h.size)(iv:TY o h w l.vs)(Xf:(O fl)<=1000000000000):
  Zd aw T 94 #[Zz wb,Zz nb,Q J to,a3 (XV l w).toArray] h fun v' h'=>∃o' JD,Kp nH o h o' h'/\(∀b,b<h.size->o' b=o b)/\Z1 o' h' wb YN JD (fl++[⟨l.Z3,me,to,l.b,l.v,l.vs⟩]) Yy ZE:=by
 obtain⟨p,c,hw⟩:=iv.ZP;have X3:YE w=true:=by rw[hw];rfl
 have Am:=Za W.ZZ.2;have R0:=XX W.ZZ.2;refine Zd.XS [_,_,_,_] Tryz.func94 ?_;unfold Zz XV;have e1:nb≠h.size:=pA;have e2:wb≠h.size:=pA;simp -implicitDefEqProofs only[go_sem,O9,e1,Dp];refine VS.z (h.size+1) [7,10] (.p 0 (.p 1 (.p 2 (.p 3 (.q 4 (.q 5 (.s 6 (.w 7 (.p 8 (.p 9 (.w 10 .nil))))))))))) mixed vM ?_;simp -implicitDefEqProofs only[go_sem,O9,mC,e1,e2,Dp,R0.Zp,Am];obtain⟨h1,Xp⟩:=ZL (h.push (Z (XV ⟨l.Z3,me,to,l.b,l.v,l.vs⟩ w).toArray 135):Hp);have s1:h1.size=h.size+1:=by rw[Xp];simp
 obtain⟨h2,Vq⟩:=ZL (h1.push (Z (XV ⟨l.Z3,me,to,l.b,l.v,l.vs⟩ w).toArray 135):Hp);have ee:((h.push (Z (XV ⟨l.Z3,me,to,l.b,l.v,l.vs⟩ w).toArray 135)).push (Z (XV ⟨l.Z3,me,to,l.b,l.v,l.vs⟩ w).toArray 135))=h2:=by rw[Vq,Xp]
 unfold XV at ee;simp only at ee;refine⟨Zj.push IQ _,?_⟩;rw[ee];have k2:Kp (fun _=>False) o h o h2:=by rw[Vq,Xp];exact ((Kp.refl d _).push _).push _
 have W2:=W.Zf k2 (fun _ q=>q.elim);have vE:=iv.Zf k2;obtain⟨xs,Wf,Mw,jo⟩:=W2.Zp;have BT:(O xs)=(O fl):=by rw[<-Wf,List.length_map]
 have src:Sl 14 h2 (ae (U ⟨h.size+1,0,ag⟩) 1 1) 1 (XV ⟨l.Z3,me,to,l.b,l.v,l.vs⟩ w):=by
  rw[Vq,<-s1];exact Sl.made (by simp[XV]) 1
 refine Q8 (E:=135) (n:=14) (bytes:=128) (k:=1) mL b8 yv mO rfl Zfv Mw k2.Yn src (by rw[XV,bc];intro x hx;simp at hx;rcases hx with rfl|rfl|rfl|rfl|rfl|rfl|rfl|rfl|rfl|rfl|rfl|rfl|rfl|rfl<;>first|rfl|exact X3) pA pA ?_;intro v' o3 h3 w3 k3 q3;have b3:=W2.ZZ.Zf k3 aaj;have R3:=XX b3.2;obtain⟨p3,c3,rfl,_⟩:=w3.ZP;have hw3:=Za b3.2;have e3:=R3.Ak (ae p3 ((O xs)+1) c3) rfl;simp -implicitDefEqProofs only[go_sem,e3];have k4:Kp nH o h o3 h3:=(k2.mono fun _ q=>q.elim).trans (k3.mono fun u q=>.inr q);have k5:=k4.set b3.1 (.inl rfl) (Z (Jd Yy { Xw with Zp:=ae p3 ((O xs)+1) c3 }).toArray 97);have kk:Kp (fun u=>u=.world) o3 h3 o3 (h3.setIfInBounds wb (Z (Jd Yy { Xw with Zp:=ae p3 ((O xs)+1) c3 }).toArray 97)):=(Kp.refl k3.Yn (fun u=>u=.world)).set b3.1 rfl _;refine⟨o3,{ Xw with Zp:=ae p3 ((O xs)+1) c3 },k5,fun b hb=>q3 b (by have:=k2.size;omega),⟨b3.1,ZV b3.2⟩,(W2.Zb.Zf k3 aaj).Zf kk aaj,⟨xs++[(⟨l.Z3,me,to,l.b,l.v,l.vs⟩,w)],?_,?_,fun x hx=>?_⟩,(W2.ZE.Zf k3 aaj).Zf kk aaj⟩
 .rw[List.map_append,Wf];rfl
 .have:=w3.Zf kk aaj;rw[Y6,Tu,am];exact this
 .rcases List.mem_append.1 hx with hx|hx
  .exact ((jo x hx).Zf k3).Zf kk
  .have:x=(⟨l.Z3,me,to,l.b,l.v,l.vs⟩,w):=by simpa using hx
   subst this;exact (vE.Zf k3).Zf kk
@[go_sem] theorem Zvs(x:Cm):Xe [U J,U J,U J,U J,U J] x.C=true:=rfl
@[go_sem] theorem Zvt(x y:Cm):leq x.C y.C=decide (x=y):=by
 obtain⟨a,b,c,d,e⟩:=x;obtain⟨a',b',c',d',e'⟩:=y;unfold JZ.C Ua;rw[bz];simp[leq,ceq,JZ.mk.injEq]
@[go_sem] theorem L9(x:Cm):x.C.length=5:=rfl
@[go_sem] theorem Zax(x:Cm):x.C.all YE=true:=rfl
@[go_sem] theorem Zqy(x:Cm):Xd [Q J 0,Q J 0,Q J 0,Q J 0,Q J 0] 0 x.C=x.C:=rfl
theorem Qp(s:Ts JZ.C 5 h v l):∃p c,v=ae p (O l) c/\(l≠[]->∃b o,p=U ⟨b,o,ag⟩/\b<h.size/\∀i (hi:i<(O l)),rd h ⟨b,o+i*5,ag⟩ 5=U (l[i]).C):=by
 obtain⟨p,c,hv,hh⟩:=s.open L9 aaa;refine⟨p,c,hv,fun Y7=>?_⟩;obtain⟨b,o,h1,h2,h3⟩:=hh Y7;exact⟨b,o,h1,h2,fun i hi=>(h3 i hi).rd (by simp[JZ.C,Ua]) rfl⟩
def RD(l:List Cm)(x:Cm):Int:=if x∈l then (l.idxOf x:Int) else -1
theorem Zay{x:Cm}{i:Nat}(hi:i<(O l))(he:l[i]=x)(hn:∀j (hj:j<(O l)),j<i->l[j]≠x):l.idxOf x=i:=by
 have hx:x∈l:=he▸bk hi;have h1:l.idxOf x<(O l):=ba hx;have h2:l[l.idxOf x]=x:=b0 h1;rcases Nat.lt_trichotomy (l.idxOf x) i with h|h|h
 .exact absurd h2 (hn _ h1 h)
 .exact h
 .have:=bo (p:=(· == x)) (xs:=l) (i:=i) h
  simp[he]at this
theorem nI{x:Cm}{i:Nat}(hi:i<(O l))(he:l[i]=x)(hn:∀j (hj:j<(O l)),j<i->l[j]≠x):RD l x=i:=by
 unfold RD;rw[if_pos (he▸bk hi),Zay hi he hn]
theorem Ci{x:Cm}(hn:∀j (hj:j<(O l)),l[j]≠x):RD l x = -1:=by
 unfold RD;rw[if_neg fun hm=>by obtain⟨j,hj,he⟩:=bg hm;exact hn j hj he]
theorem Ka(l:List Cm)(x:Cm):0<=RD l x↔x∈l:=by
 unfold RD;split
 .rename_i h;exact⟨fun _=>h,fun _=>by omega⟩
 .rename_i h;exact⟨fun q=>by omega,fun q=>absurd q h⟩
theorem FS(h:Hp)(v:al)(l:List Cm)(x:Cm)(s:Ts JZ.C 5 h v l)(hl:(O l)<=4611686018427387904):
  Zd aw T 67 #[v,Sy x] h fun v' h'=>v'=Q J (RD l x)/\Zj h.size h h':=by
 obtain⟨p,c,rfl,XL⟩:=Qp s;refine Zd.XS [_,_] Tryz.func67 ?_;unfold Sy;simp -implicitDefEqProofs only[go_sem];obtain⟨h1,Xp⟩:=ZL (h.push (Z x.C.toArray 25):Hp);have b1:Zj h.size h h1:=by rw[Xp];exact Zj.push (a6 _) _
 have x1:h1[h.size]? = U (Z x.C.toArray 25):=by rw[Xp];exact Zc
 rw[<-Xp];clear Xp;refine VS.Yk (fun F g=>g=h1/\F 0=ae p (O l) c/\F 3=aN (U ⟨h.size,0,ag⟩)/\F 7=Q J (O l)/\∃i:Nat,i<=(O l)/\F 8=Q J i/\∀j (hj:j<(O l)),j<i->l[j]≠x)
  (fun F _=>(O l)-(vi (F 8)).toNat) rfl ⟨rfl,rfl,rfl,rfl,0,pA,rfl,fun j hj q=>by omega⟩ ?_
 rintro F g ⟨rfl,f0,f3,f7,i,hi,f8,XO⟩;by_cases ZT:i<(O l)
 .have Z7:(i:Int)<(O l):=pA;obtain⟨bb,oo,rfl,TC,Fo⟩:=XL (by intro e;rw[e]at ZT;simp at ZT);have r1:rd g ⟨bb,oo+i*5,ag⟩ 5=U (l[i]).C:=by rw[Q3 b1 (by exact TC)];exact Fo i ZT
  have r0:rd g ⟨h.size,0,ag⟩ 5=U x.C:=Zy x1 rfl;simp -implicitDefEqProofs only[go_sem,f0,f3,f7,f8,Z7];refine VS.q mixed vM ?_;simp -implicitDefEqProofs only[go_sem,f0,f3,f7,f8,Z7,r1,r0];by_cases q:l[i]=x
  .have e:=nI ZT q XO;rw[q];simp -implicitDefEqProofs only[go_sem,e,b1]
  .have q':¬x=l[i]:=fun e=>q e.symm;simp -implicitDefEqProofs only[go_sem,q',f0,f3,f7,f8];refine⟨⟨rfl,f0,f3,f7,i+1,ZT,rfl,fun j hj Sd=>?_⟩,?_⟩
   .by_cases e:j=i
    .subst e;exact q
    .exact XO j hj pA
   .simp only[vi,Zr,↓reduceIte,f8];omega
 .have Xv:¬(i:Int)<(O l):=pA;have e:=Ci (l:=l) (x:=x) fun j hj=>XO j hj pA;simp -implicitDefEqProofs only[go_sem,f7,f8,Xv,e,b1]
theorem SX(h:Hp)(v:al)(l:List Cm)(x:Cm)(s:Ts JZ.C 5 h v l)(hl:(O l)<=4611686018427387904):
  Zd aw T 69 #[v,Sy x] h fun v' h'=>v'=aD (decide (x∈l))/\Zj h.size h h':=by
 obtain⟨p,c,rfl,XL⟩:=Qp s;refine Zd.XS [_,_] Tryz.func69 ?_;unfold Sy;simp -implicitDefEqProofs only[go_sem];refine (FS T _ _ l x (s.Yz ((Zj.refl _ _).add _)) hl).use ?_;rintro _ h2 ⟨rfl,b2⟩;have b:Zj h.size h h2:=((Zj.refl _ _).add _).trans (b2.mono IQ);simp -implicitDefEqProofs only[go_sem,Ka,b]
theorem Cj(h:Hp)(b:Nat)(x y:Cm)(hb:h[b]? = U (Z x.C.toArray 25)):
  Zd aw T 130 #[Sy y,Zz b] h fun v' h'=>v'=aD (decide (y=x))/\Zj h.size h h':=by
 have ZT:=Za hb;refine Zd.XS [_,_] Tryz.func130 ?_;unfold Sy Zz;have Y7:b≠h.size:=pA;have r0:rd (h.push (Z y.C.toArray 25)) ⟨h.size,0,ag⟩ 5=U y.C:=Zy Zc rfl;have r1:rd (h.push (Z y.C.toArray 25)) ⟨b,0,ag⟩ 5=U x.C:=Zy (by rw[ZJ ZT];exact hb) rfl;simp -implicitDefEqProofs only[go_sem,r0,r1]
def Hf(b:Nat):al:=Sa 130 [b]
theorem FT(h:Hp)(v:al)(l:List Cm)(b:Nat)(x:Cm)(s:Ts JZ.C 5 h v l)(hb:h[b]? = U (Z x.C.toArray 25))(hl:(O l)<=4611686018427387904):
  Zd aw T 132 #[v,Hf b] h fun v' h'=>v'=Q J (RD l x)/\Zj h.size h h':=by
 obtain⟨p,c,rfl,XL⟩:=Qp s;refine Zd.XS [_,_] Tryz.func132 ?_;have ZT:=Za hb;unfold Hf Sa;simp -implicitDefEqProofs only[go_sem];refine VS.Yk (fun F g=>Zj h.size h g/\F 0=ae p (O l) c/\F 1=Hf b/\F 7=Q J (O l)/\∃i:Nat,i<=(O l)/\F 8=Q J i/\∀j (hj:j<(O l)),j<i->l[j]≠x)
  (fun F _=>(O l)-(vi (F 8)).toNat) rfl ⟨Zj.refl _ _,rfl,rfl,rfl,0,pA,rfl,fun j hj q=>by omega⟩ ?_
 rintro F g ⟨hg,f0,f1,f7,i,hi,f8,XO⟩;by_cases ZT:i<(O l)
 .have Z7:(i:Int)<(O l):=pA;obtain⟨bb,oo,rfl,TC,Fo⟩:=XL (by intro e;rw[e]at ZT;simp at ZT);have r1:rd g ⟨bb,oo+i*5,ag⟩ 5=U (l[i]).C:=by rw[Q3 hg (by exact TC)];exact Fo i ZT
  unfold Hf Sa at f1;simp only[cg]at f1;simp -implicitDefEqProofs only[go_sem,f0,f1,f7,f8,Z7,r1];refine (Cj T g b x l[i] (hg.get pA hb)).use ?_;rintro _ g1 ⟨rfl,b1⟩;have Mc:Zj h.size h g1:=hg.trans (b1.mono hg.size);by_cases q:l[i]=x
  .have e:=nI ZT q XO;simp -implicitDefEqProofs only[go_sem,q,f8,e,Mc]
  .simp -implicitDefEqProofs only[go_sem,q,f0,f1,f7,f8];refine⟨⟨Mc,f0,f1,f7,i+1,ZT,rfl,fun j hj Sd=>?_⟩,?_⟩
   .by_cases e:j=i
    .subst e;exact q
    .exact XO j hj pA
   .simp only[vi,Zr,↓reduceIte,f8];omega
 .have Xv:¬(i:Int)<(O l):=pA;have e:=Ci (l:=l) (x:=x) fun j hj=>XO j hj pA;simp -implicitDefEqProofs only[go_sem,f7,f8,Xv,e,hg]
theorem dx(h:Hp)(o:Ow)(t:Tg)(v:al)(m i:Nat)(cs:List al)(s:XB o t 25 5 h v m cs)(d:Vz o h)(X3:cs.all YE=true)(hi:i<m)(hm:m<=4611686018427387904):
  Zd aw T 133 #[v,Q J i,Q J ((i:Int)+1)] h fun v' h'=>XB o t 25 5 h' v' (m-1) (cs.take (i*5)++cs.drop ((i+1)*5))/\Kp (fun u=>u=t) o h o h':=by
 rcases s with⟨⟨p,rfl⟩,rfl,rfl⟩|⟨b,off,cap,pre,ZG,h1,rfl,h3,h4,h5,h6,h7⟩
 .omega
 refine Zd.XS [_,_,_] Tryz.func133 ?_;have e1:(i:Int)<=m:=pA;have e2:(i:Int)+1<=m:=pA;have e3:(m:Int)<=cap:=pA;have e4:(i:Int)≠i+1:=pA;have e5:((i:Int)+1).toNat=i+1:=pA;have e6:(0:Int)<=i+1:=pA;have e7:(i:Int)<=i+1:=pA;have e8:(i:Int)<=cap:=pA;have c0:cap≠0:=pA;simp -implicitDefEqProofs only[go_sem,e1,e2,e3,e4,e5,e6,e7,e8];refine VS.z (h.size) [6] (.p 0 (.p 1 (.p 2 (.p 3 (.p 4 (.p 5 (.w 6 (.p 7 .nil)))))))) mixed vM ?_;simp -implicitDefEqProofs only[go_sem,e1,e2,e3,e4,e5,e6,e7,e8,c0];have Ha:i*5<=m*5:=a7 _ pA;have Zvu:(i+1)*5<=m*5:=a7 _ pA;have vf:m*5<=cap*5:=a7 _ h7;have ZZ:h[b]? = U (Z (pre++(cs.take (i*5)++(cs.drop (i*5)++ZG))).toArray 25 (0,0)):=by
  rw[<-a0 (ck _ _),a4];exact h3
 have src:Sl 5 h (ae (if cap=i+1 then U ⟨b,off,ag⟩ else U ⟨b,off+(i+1)*5,ag⟩) (m-(i+1)) (cap-(i+1))) (m-(i+1)) (cs.drop ((i+1)*5)):=by
  have:=(XB.tail (k:=i+1) (.inr ⟨b,off,cap,pre,ZG,h1,rfl,h3,h4,h5,h6,h7⟩:XB o t 25 5 h (ae (U ⟨b,off,ag⟩) m cap) m cs) pA).sl;rw[bA,XR]at this;exact this
 have nl:(cs.drop ((i+1)*5)).length=(m-(i+1))*5:=by rw[aO,h5,bf]
 refine G8 (E:=25) (n:=5) (m:=i) (k:=m-(i+1)) (cs:=cs.take (i*5)) aV cc ZgZ yu ZZ h4.symm aad src (bc.2 fun x hx=>bc.1 X3 x (bG hx)) pA (by rw[am,aO,h5,<-bf];have:(m-(i+1))*5<=(m-i)*5:=a7 _ pA;omega) ?_;obtain⟨g,hg⟩:=ZL (h.setIfInBounds b (Z (pre++((cs.take (i*5)++cs.drop ((i+1)*5))++(cs.drop (i*5)++ZG).drop ((m-(i+1))*5))).toArray 25 (0,0)):Hp);rw[<-hg];have kg:Kp (fun u=>u=t) o h o g:=by rw[hg];exact (Kp.refl d (fun u=>u=t)).set h1 rfl _
 have gb:=ZV (o:=Z (pre++((cs.take (i*5)++cs.drop ((i+1)*5))++(cs.drop (i*5)++ZG).drop ((m-(i+1))*5))).toArray 25 (0,0)) h3;rw[<-hg]at gb;have e9:i+(m-(i+1))=m-1:=pA;have f1:((m-1:Nat):Int)<=m:=pA;have f2:(0:Int)<=((m-1:Nat):Int):=pA;have f3:cap≠m-1:=pA;have f4:(((m-1:Nat):Int)).toNat=m-1:=pA;have f5:(0:Int)<=m:=pA;have f6:((m-1:Nat):Int)<=cap:=pA;rw[e9];simp -implicitDefEqProofs only[go_sem,e3,f1,f2,f3,f4,f5,f6];have tl:((cs.drop (i*5)++ZG).drop ((m-(i+1))*5)).length=5+(O ZG):=by
  rw[aO,am,aO,h5];have:(m-(i+1))*5+5=m*5-i*5:=by rw[<-bf,<-br];congr 1;omega
  omega
 obtain⟨tail,ht⟩:=ZL ((cs.drop (i*5)++ZG).drop ((m-(i+1))*5));rw[<-ht]at gb tl;obtain⟨body,jg⟩:=ZL (cs.take (i*5)++cs.drop ((i+1)*5));have bl:(O body)=(m-1)*5:=by
  rw[jg,am,a5,nl,h5,bd Ha,<-cd];congr 1
 rw[<-jg]at gb ⊢;have gb2:g[b]? = U (Z ((pre++body)++(tail.take 5++tail.drop 5)).toArray 25 (0,0)):=by
  rw[a4,a0];exact gb
 have e10:m-(m-1)=1:=pA;rw[e10];refine KH (E:=25) (n:=5) (k:=1) aV yu rfl rfl gb2 (by rw[am,h4,bl]) aad ?_;intro new jQ;simp -implicitDefEqProofs only[go_sem];have kk:=kg.set h1 rfl (Z ((pre++body)++(new++tail.drop 5)).toArray 25 (0,0));refine⟨.inr ⟨b,off,cap,pre,new++tail.drop 5,h1,rfl,?_,h4,bl,?_,pA⟩,kk⟩
 .rw[ZV gb2,a0]
 .rw[am,jQ,a5,aO,tl,h6];have:(cap-(m-1))*5=(cap-m)*5+5:=by rw[<-br];congr 1;omega
  omega
theorem dy(h:Hp)(o:Ow)(t:Tg)(v:al)(m i:Nat)(cs:List al)(s:XB o t 135 14 h v m cs)(d:Vz o h)(X3:cs.all YE=true)(hi:i<m)(hm:m<=4611686018427387904):
  Zd aw T 73 #[v,Q J i,Q J ((i:Int)+1)] h fun v' h'=>XB o t 135 14 h' v' (m-1) (cs.take (i*14)++cs.drop ((i+1)*14))/\Kp (fun u=>u=t) o h o h':=by
 rcases s with⟨⟨p,rfl⟩,rfl,rfl⟩|⟨b,off,cap,pre,ZG,h1,rfl,h3,h4,h5,h6,h7⟩
 .omega
 refine Zd.XS [_,_,_] Tryz.func73 ?_;have e1:(i:Int)<=m:=pA;have e2:(i:Int)+1<=m:=pA;have e3:(m:Int)<=cap:=pA;have e4:(i:Int)≠i+1:=pA;have e5:((i:Int)+1).toNat=i+1:=pA;have e6:(0:Int)<=i+1:=pA;have e7:(i:Int)<=i+1:=pA;have e8:(i:Int)<=cap:=pA;have c0:cap≠0:=pA;simp -implicitDefEqProofs only[go_sem,e1,e2,e3,e4,e5,e6,e7,e8];refine VS.z (h.size) [6] (.p 0 (.p 1 (.p 2 (.p 3 (.p 4 (.p 5 (.w 6 (.p 7 .nil)))))))) mixed vM ?_;simp -implicitDefEqProofs only[go_sem,e1,e2,e3,e4,e5,e6,e7,e8,c0];have Ha:i*14<=m*14:=a7 _ pA;have Zvu:(i+1)*14<=m*14:=a7 _ pA;have vf:m*14<=cap*14:=a7 _ h7;have ZZ:h[b]? = U (Z (pre++(cs.take (i*14)++(cs.drop (i*14)++ZG))).toArray 135 (0,0)):=by
  rw[<-a0 (ck _ _),a4];exact h3
 have src:Sl 14 h (ae (if cap=i+1 then U ⟨b,off,ag⟩ else U ⟨b,off+(i+1)*14,ag⟩) (m-(i+1)) (cap-(i+1))) (m-(i+1)) (cs.drop ((i+1)*14)):=by
  have:=(XB.tail (k:=i+1) (.inr ⟨b,off,cap,pre,ZG,h1,rfl,h3,h4,h5,h6,h7⟩:XB o t 135 14 h (ae (U ⟨b,off,ag⟩) m cap) m cs) pA).sl;rw[bA,XR]at this;exact this
 have nl:(cs.drop ((i+1)*14)).length=(m-(i+1))*14:=by rw[aO,h5,bf]
 refine G8 (E:=135) (n:=14) (m:=i) (k:=m-(i+1)) (cs:=cs.take (i*14)) mL b8 yv mO ZZ h4.symm aad src (bc.2 fun x hx=>bc.1 X3 x (bG hx)) pA (by rw[am,aO,h5,<-bf];have:(m-(i+1))*14<=(m-i)*14:=a7 _ pA;omega) ?_;obtain⟨g,hg⟩:=ZL (h.setIfInBounds b (Z (pre++((cs.take (i*14)++cs.drop ((i+1)*14))++(cs.drop (i*14)++ZG).drop ((m-(i+1))*14))).toArray 135 (0,0)):Hp);rw[<-hg];have kg:Kp (fun u=>u=t) o h o g:=by rw[hg];exact (Kp.refl d (fun u=>u=t)).set h1 rfl _
 have gb:=ZV (o:=Z (pre++((cs.take (i*14)++cs.drop ((i+1)*14))++(cs.drop (i*14)++ZG).drop ((m-(i+1))*14))).toArray 135 (0,0)) h3;rw[<-hg]at gb;have e9:i+(m-(i+1))=m-1:=pA;have f1:((m-1:Nat):Int)<=m:=pA;have f2:(0:Int)<=((m-1:Nat):Int):=pA;have f3:cap≠m-1:=pA;have f4:(((m-1:Nat):Int)).toNat=m-1:=pA;have f5:(0:Int)<=m:=pA;have f6:((m-1:Nat):Int)<=cap:=pA;rw[e9];simp -implicitDefEqProofs only[go_sem,e3,f1,f2,f3,f4,f5,f6];have tl:((cs.drop (i*14)++ZG).drop ((m-(i+1))*14)).length=14+(O ZG):=by
  rw[aO,am,aO,h5];have:(m-(i+1))*14+14=m*14-i*14:=by rw[<-bf,<-br];congr 1;omega
  omega
 obtain⟨tail,ht⟩:=ZL ((cs.drop (i*14)++ZG).drop ((m-(i+1))*14));rw[<-ht]at gb tl;obtain⟨body,jg⟩:=ZL (cs.take (i*14)++cs.drop ((i+1)*14));have bl:(O body)=(m-1)*14:=by
  rw[jg,am,a5,nl,h5,bd Ha,<-cd];congr 1
 rw[<-jg]at gb ⊢;have gb2:g[b]? = U (Z ((pre++body)++(tail.take 14++tail.drop 14)).toArray 135 (0,0)):=by
  rw[a4,a0];exact gb
 have e10:m-(m-1)=1:=pA;rw[e10];refine KH (E:=135) (n:=14) (k:=1) mL mO rfl rfl gb2 (by rw[am,h4,bl]) aad ?_;intro new jQ;simp -implicitDefEqProofs only[go_sem];have kk:=kg.set h1 rfl (Z ((pre++body)++(new++tail.drop 14)).toArray 135 (0,0));refine⟨.inr ⟨b,off,cap,pre,new++tail.drop 14,h1,rfl,?_,h4,bl,?_,pA⟩,kk⟩
 .rw[ZV gb2,a0]
 .rw[am,jQ,a5,aO,tl,h6];have:(cap-(m-1))*14=(cap-m)*14+14:=by rw[<-br];congr 1;omega
  omega
section
variable {α:Type} {enc:α->List al} {n:Nat}
theorem Nq(UR:∀x,(enc x).length=n)(l:List α)(i:Nat)(hi:i<=(O l)):(ZU enc l).take (i*n)=ZU enc (l.take i):=by
 have h1:(ZU enc (l.take i)).length=i*n:=by rw[Qs UR,a5,bd hi]
 have h2:ZU enc l=ZU enc (l.take i)++ZU enc (l.drop i):=by rw[<-Y6,a4]
 rw[h2,<-h1,List.take_left]
theorem RE(UR:∀x,(enc x).length=n)(l:List α)(i:Nat)(hi:i<=(O l)):(ZU enc l).drop (i*n)=ZU enc (l.drop i):=by
 have h1:(ZU enc (l.take i)).length=i*n:=by rw[Qs UR,a5,bd hi]
 have h2:ZU enc l=ZU enc (l.take i)++ZU enc (l.drop i):=by rw[<-Y6,a4]
 rw[h2,<-h1,List.drop_left]
theorem Zaz(UR:∀x,(enc x).length=n)(l:List α)(i:Nat)(hi:i<(O l))(y:α):ZU enc (l.set i y)=(ZU enc l).take (i*n)++(enc y++(ZU enc l).drop ((i+1)*n)):=by
 rw[List.set_eq_take_append_cons_drop,if_pos hi,Y6,Nq UR _ _ pA,RE UR _ _ pA];rfl
end
theorem Zd1(l:List Cm):(ZU JZ.C l).all YE=true:=by
 induction l with
 | nil=>rfl
 | cons x l ih=>rw[ZU,List.all_append,ih];rfl
theorem SY{j:Nat}(hj:j<(O l))(q:Cm->Bool):(l.take (j+1)).filter q=(l.take j).filter q++if q l[j]=true then [l[j]] else []:=by
 rw[Y8 l j hj,List.filter_append]
 congr 1
 cases h:q l[j]<;>simp[h]
theorem dz{x:Cm}{i:Nat}(h:RD l x=i):i<(O l)/\(l.take i).filter (fun y=>decide (y≠x))=l.take i/\l[i]? = U x:=by
 unfold RD at h;split at h
 .rename_i hm;have hi:l.idxOf x=i:=pA;have h1:l.idxOf x<(O l):=ba hm;refine⟨pA,?_,?_⟩
  .rw[bR];intro y hy;obtain⟨k,hk,rfl⟩:=bg hy;rw[a5]at hk;rw[List.getElem_take];have:=bo (p:=(· == x)) (xs:=l) (i:=k) (show k<List.findIdx (· == x) l by rw[show List.findIdx (· == x) l=l.idxOf x from rfl];omega)
   simpa using this
  .rw[<-hi,a8 h1,b0 h1]
 .omega
theorem dA(h:Hp)(o:Ow)(t:Tg)(v:al)(l:List Cm)(bx:Nat)(x:Cm)(s:U8 o t h v l)(d:Vz o h)(hb:Yb o h bx (Z x.C.toArray 25))(hl:(O l)<=4611686018427387904):
  Zd aw T 131 #[v,Hf bx] h fun v' h'=>U8 o t h' v' (l.filter fun y=>decide (y≠x))/\Kp (fun u=>u=t) o h o h':=by
 have ts:Ts JZ.C 5 h v l:=⟨s.sl⟩
 obtain⟨p,c,rfl,XL⟩:=Qp ts;refine Zd.XS [_,_] Tryz.func131 ?_;unfold Hf Sa;simp -implicitDefEqProofs only[go_sem];refine (FT T h _ l bx x ts hb.2 hl).use ?_;rintro _ h1 ⟨rfl,b1⟩;have k1:Kp (fun u=>u=t) o h o h1:=Kp.G7 d b1 _;by_cases hm:x∈l
 case neg=>
  have e:RD l x = -1:=by unfold RD;rw[if_neg hm]
  have e2:(l.filter fun y=>decide (y≠x))=l:=by
   rw[bR];intro y hy;simpa using fun q=>hm (by rw[<-q];exact hy)
  simp -implicitDefEqProofs only[go_sem,e,e2];exact⟨U8.Zf (S:=fun _=>False) s (Kp.G7 d b1 _) id,k1⟩
 obtain⟨i0,PQ⟩:∃i:Nat,RD l x=i:=⟨l.idxOf x,by unfold RD;rw[if_pos hm]⟩
 obtain⟨hi,hf,hx⟩:=dz PQ;rcases s with⟨⟨q,h1'⟩,h2',h3'⟩|⟨b,off,cap,pre,ZG,o1,hv,o3,o4,o5,o6,o7⟩
 .omega
 simp only[Value.slice.injEq]at hv;obtain⟨rfl,_,rfl⟩:=hv;have i1:¬((i0:Nat):Int) = -1:=pA;simp -implicitDefEqProofs only[go_sem,PQ,i1];obtain⟨q,hq⟩:∃q:Cm->Bool,q=fun y=>decide ¬y=x:=⟨_,rfl⟩
 have hq':(fun y=>decide (y≠x))=q:=by rw[hq]
 have hqx:∀y,q y=decide ¬y=x:=fun y=>by rw[hq]
 rw[hq']at hf;rw[<-hq];have gj:l[i0]=x:=by rw[a8 hi]at hx;exact Option.some.inj hx
 have sl:(O l)<=c:=o7;have el:∀L:List Cm,(ZU JZ.C L).length=(O L)*5:=fun L=>Qs (n:=5) L9 L;refine VS.Yk (fun F g=>F 0=ae (U ⟨b,off,ag⟩) (O l) c/\F 1=Hf bx/\Kp (fun u=>u=t) o h o g/\∃(i j:Nat) (L:List Cm),F 5=Q J i/\F 6=Q J j/\j<=(O l)/\i<j/\(O L)=(O l)/\L.take i=(l.take j).filter q/\L.drop j=l.drop j/\i=((l.take j).filter q).length /\
   g[b]? = U (Z (pre++(ZU JZ.C L++ZG)).toArray 25 (0,0)))
  (fun F _=>(O l)-(vi (F 6)).toNat) rfl ⟨rfl,rfl,k1,i0,i0+1,l,rfl,?_,pA,pA,rfl,?_,rfl,?_,b1.get (Za o3) o3⟩ ?_
 .show Value.int J _=_
  congr 1
 .rw[SY hi,hf,gj,hqx,if_neg IQ,be]
 .rw[SY hi,hf,gj,hqx,if_neg IQ,be,a5];omega
 rintro F g ⟨f0,f1,kg,i,j,L,f5,f6,hj,vd,hL,hLi,hLj,ab,gb⟩;unfold Hf Sa at f1;simp only[cg]at f1;have gl:=Za gb;by_cases ZT:j<(O l)
 .have Z7:(j:Int)<(O l):=pA;have hjL:L[j]? = l[j]?:=by
   have:=congrArg (fun z=>z[0]?) hLj
   simpa using this
  have gz:j<(O L):=pA;have hjE:L[j]=l[j]:=by
   rw[a8 gz,a8 ZT]at hjL;exact Option.some.inj hjL
  have ow:XB o t 25 5 g (ae (U ⟨b,off,ag⟩) (O L) c) (O L) (ZU JZ.C L):=.inr ⟨b,off,c,pre,ZG,o1,rfl,gb,o4,el L,by rw[hL];exact o6,pA⟩;obtain⟨p2,c2,jG,EJ⟩:=Qp (⟨ow.sl⟩:Ts JZ.C 5 g _ L);obtain⟨bb,oo,vo,_,hr⟩:=EJ (by intro e;rw[e]at gz;simp at gz);subst vo;simp only[Value.slice.injEq,Option.some.injEq,Addr.mk.injEq]at jG;obtain⟨⟨rfl,rfl,_⟩,_,rfl⟩:=jG;have r1:rd g ⟨b,off+j*5,ag⟩ 5=U (l[j]).C:=by rw[hr j gz,hjE]
  simp -implicitDefEqProofs only[go_sem,f0,f1,f5,f6,Z7,r1];have bxg:=hb.Zf kg;have bxl:bx≠g.size:=by have:=Za bxg.2;omega
  refine (Cj T _ bx x l[j] (by rw[ZJ (Za bxg.2)];exact bxg.2)).use ?_;rintro _ g1 ⟨rfl,b1'⟩;have bp:Zj g.size g g1:=(Zj.push (a6 _) _).trans (b1'.mono IQ);have kg1:Kp (fun u=>u=t) o h o g1:=kg.Yz bp;have gb1:=bp.get gl gb;have Zvy:g1[g.size]? = U (Z (l[j]).C.toArray 25):=b1'.get IQ Zc;have yr:rd g1 ⟨g.size,0,ag⟩ 5=U (l[j]).C:=Zy Zvy rfl;have fs:=SY ZT q;have hd1:∀L':List Cm,L'.drop j=l.drop j->L'.drop (j+1)=l.drop (j+1):=fun L' h=>by
   rw[<-bN,<-bN,h]
  by_cases hxj:l[j]=x
  .have fs':(l.take (j+1)).filter q=(l.take j).filter q:=by rw[fs,hqx,if_neg (by simp[hxj]),be]
   simp -implicitDefEqProofs only[go_sem,hxj,f0,f1,f5,f6];refine⟨⟨f0,f1,kg1,i,j+1,L,f5,rfl,ZT,pA,hL,by rw[fs'];exact hLi,hd1 L hLj,by rw[fs'];exact ab,gb1⟩,?_⟩;simp only[vi,Zr,↓reduceIte,f6];omega
  .have fs':(l.take (j+1)).filter q=(l.take j).filter q++[l[j]]:=by rw[fs,hqx,if_pos (by simp[hxj])]
   have i0':(0:Int)<=i:=pA;have i1':(i:Int)<(O l):=pA;have hiL:i<(O L):=pA;have w1:=Ye gb1 (off+i*5) (l[j]).C;have eL:Xd (pre++(ZU JZ.C L++ZG)) (off+i*5) (l[j]).C=pre++(ZU JZ.C (L.set i l[j])++ZG):=by
    have e1:ZU JZ.C L=(ZU JZ.C L).take (i*5)++(((ZU JZ.C L).drop (i*5)).take 5++(ZU JZ.C L).drop ((i+1)*5)):=by
     have:(ZU JZ.C L).drop ((i+1)*5)=((ZU JZ.C L).drop (i*5)).drop 5:=by rw[bN];congr 1;omega
     rw[this,a4,a4]
    have hle:(i+1)*5<=(ZU JZ.C L).length:=by rw[el];omega
    rw[Zaz L9 L i hiL]
    conv=>lhs;rw[e1]
    have e2:pre++(((ZU JZ.C L).take (i*5)++(((ZU JZ.C L).drop (i*5)).take 5++(ZU JZ.C L).drop ((i+1)*5)))++ZG)=(pre++(ZU JZ.C L).take (i*5))++(((ZU JZ.C L).drop (i*5)).take 5++((ZU JZ.C L).drop ((i+1)*5)++ZG)):=by simp only[a0]
    rw[e2,Sj (by rw[am,o4,a5];omega) (by rw[a5,aO,L9];omega)];simp only[a0]
   rw[eL,if_pos ⟨by rw[am,am,o4,el,L9];omega,Zax _⟩]at w1;simp -implicitDefEqProofs only[go_sem,hxj,f0,f1,f5,f6,yr,i0',i1',w1];refine⟨⟨f0,f1,kg1.set o1 rfl _,i+1,j+1,L.set i l[j],rfl,rfl,ZT,pA,by rw[cf,hL],?_,?_,?_,ZV gb1⟩,?_⟩
   .rw[Y8 _ i (by rw[cf];exact hiL),List.take_set_of_le (a6 _),List.getElem_set_self,fs',<-hLi]
   .refine hd1 _ ?_;rw[<-hLj,List.drop_set_of_lt pA]
   .rw[fs',am,<-ab];rfl
   .simp only[vi,Zr,↓reduceIte,f6];omega
 .have Xv:¬(j:Int)<(O l):=pA;obtain rfl:j=(O l):=pA;rw[List.take_length]at hLi ab;have hiL:i<=(O L):=pA;have gb2:g[b]? = U (Z ((pre++ZU JZ.C (L.take i))++(ZU JZ.C (L.drop i)++ZG)).toArray 25 (0,0)):=by
   rw[<-Nq L9 L i hiL,<-RE L9 L i hiL];have:(pre++(ZU JZ.C L).take (i*5))++((ZU JZ.C L).drop (i*5)++ZG)=pre++(ZU JZ.C L++ZG):=by
    rw[a0,<-a0 (ck _ _),a4]
   rw[this];exact gb
  have tl:(ZU JZ.C (L.take i)).length=i*5:=by rw[el,a5,bd hiL]
  simp -implicitDefEqProofs only[go_sem,f0,f5,f6,Xv];refine KH (E:=25) (n:=5) (k:=(O l)-i) aV yu rfl rfl gb2 (by rw[am,o4,tl]) (by rw[el,aO,hL]) ?_;intro new jQ;have i2:(i:Int)<=c:=pA;simp -implicitDefEqProofs only[go_sem,i2,f0,f5];have e:(ZU JZ.C (L.take i))=ZU JZ.C (l.filter q):=by rw[hLi]
  refine⟨.inr ⟨b,off,c,pre,new++ZG,o1,by rw[<-ab],?_,o4,el _,?_,pA⟩,kg.set o1 rfl _⟩
  .rw[ZV gb2,<-e,a0]
  .rw[am,jQ,el,aO,o6,hL,<-ab,<-cd];congr 1;omega
@[go_sem] theorem Zvz(x:Vt):Xe [U J,U J,U J,U J,U J,U J,U J,U J] (Zv x)=true:=rfl
@[go_sem] theorem ZvA(x y:Vt):leq (Zv x) (Zv y)=decide (x=y):=by
 obtain⟨a,⟨b,c⟩,d,e,f,g,k⟩:=x;obtain⟨a',⟨b',c'⟩,d',e',f',g',k'⟩:=y;unfold Zv;rw[bz];simp[leq,ceq,Vt.mk.injEq,and_assoc]
@[go_sem] theorem ZqC(x:YA):Xe [U J,U J] (QI x)=true:=rfl
@[go_sem] theorem ZqD(x y:YA):leq (QI x) (QI y)=decide (x=y):=by
 obtain⟨a,b⟩:=x;obtain⟨a',b'⟩:=y;unfold QI;rw[bz];simp[leq,ceq,YA.mk.injEq]
@[go_sem] theorem ZmX(x:Vt):(Zv x).length=8:=rfl
theorem FU{l:List Vt}(s:Ts Zv 8 h v l):∃p c,v=ae p (O l) c/\(l≠[]->∃b o,p=U ⟨b,o,ag⟩/\b<h.size/\∀i (hi:i<(O l)),rd h ⟨b,o+i*8,ag⟩ 8=U (Zv l[i])):=by
 obtain⟨p,c,hv,hh⟩:=s.open ZmX aaa;refine⟨p,c,hv,fun Y7=>?_⟩;obtain⟨b,o,h1,h2,h3⟩:=hh Y7;exact⟨b,o,h1,h2,fun i hi=>(h3 i hi).rd (by simp[Zv]) rfl⟩
theorem jY(h:Hp)(v:al)(l:List Vt)(x:Vt)(s:Ts Zv 8 h v l)(hl:(O l)<=4611686018427387904):
  Zd aw T 134 #[v,a3 (Zv x).toArray] h fun v' h'=>(∃i:Int,v'=Q J i/\(0<=i↔x∈l))/\Zj h.size h h':=by
 obtain⟨p,c,rfl,XL⟩:=FU s;refine Zd.XS [_,_] Tryz.func134 ?_;simp -implicitDefEqProofs only[go_sem];obtain⟨h1,Xp⟩:=ZL (h.push (Z (Zv x).toArray 133):Hp);have b1:Zj h.size h h1:=by rw[Xp];exact Zj.push (a6 _) _
 have x1:h1[h.size]? = U (Z (Zv x).toArray 133):=by rw[Xp];exact Zc
 rw[<-Xp];clear Xp;refine VS.Yk (fun F g=>g=h1/\F 0=ae p (O l) c/\F 3=aN (U ⟨h.size,0,ag⟩)/\F 7=Q J (O l)/\∃i:Nat,i<=(O l)/\F 8=Q J i/\∀j (hj:j<(O l)),j<i->l[j]≠x)
  (fun F _=>(O l)-(vi (F 8)).toNat) rfl ⟨rfl,rfl,rfl,rfl,0,pA,rfl,fun j hj q=>by omega⟩ ?_
 rintro F g ⟨rfl,f0,f3,f7,i,hi,f8,XO⟩;by_cases ZT:i<(O l)
 .have Z7:(i:Int)<(O l):=pA;obtain⟨bb,oo,rfl,TC,Fo⟩:=XL (by intro e;rw[e]at ZT;simp at ZT);have r1:rd g ⟨bb,oo+i*8,ag⟩ 8=U (Zv l[i]):=by rw[Q3 b1 (by exact TC)];exact Fo i ZT
  have r0:rd g ⟨h.size,0,ag⟩ 8=U (Zv x):=Zy x1 rfl;simp -implicitDefEqProofs only[go_sem,f0,f3,f7,f8,Z7];refine VS.q mixed vM ?_;simp -implicitDefEqProofs only[go_sem,f0,f3,f7,f8,Z7,r1,r0];by_cases q:l[i]=x
  .rw[q];simp -implicitDefEqProofs only[go_sem,b1];exact⟨_,rfl,fun _=>q▸bk ZT,fun _=>by omega⟩
  .have q':¬x=l[i]:=fun e=>q e.symm;simp -implicitDefEqProofs only[go_sem,q',f0,f3,f7,f8];refine⟨⟨rfl,f0,f3,f7,i+1,ZT,rfl,fun j hj Sd=>?_⟩,?_⟩
   .by_cases e:j=i
    .subst e;exact q
    .exact XO j hj pA
   .simp only[vi,Zr,↓reduceIte,f8];omega
 .have Xv:¬(i:Int)<(O l):=pA;have hx:x ∉ l:=fun hm=>by obtain⟨j,hj,he⟩:=bg hm;exact XO j hj pA he
  simp -implicitDefEqProofs only[go_sem,f7,f8,Xv,b1,hx];exact⟨-1,rfl,fun q=>by omega,fun q=>q.elim⟩
theorem Dq(h:Hp)(v:al)(l:List Vt)(x:Vt)(s:Ts Zv 8 h v l)(hl:(O l)<=4611686018427387904):
  Zd aw T 112 #[v,a3 (Zv x).toArray] h fun v' h'=>v'=aD (decide (x∈l))/\Zj h.size h h':=by
 obtain⟨p,c,rfl,XL⟩:=FU s;refine Zd.XS [_,_] Tryz.func112 ?_;simp -implicitDefEqProofs only[go_sem];refine (jY T _ _ l x (s.Yz ((Zj.refl _ _).add _)) hl).use ?_;rintro _ h2 ⟨⟨i,rfl,hi⟩,b2⟩;have b:Zj h.size h h2:=((Zj.refl _ _).add _).trans (b2.mono IQ);simp -implicitDefEqProofs only[go_sem,hi,b]
theorem Kb(h:Hp)(a b:YA):Zd aw T 92 #[a3 (QI a).toArray,a3 (QI b).toArray] h fun v' h'=>v'=aD (decide (ZM b a))/\Zj h.size h h':=by
 refine Zd.XS [_,_] Tryz.func92 ?_;unfold QI;by_cases q1:b.r<a.r
 .have e:ZM b a:=.inl q1;simp -implicitDefEqProofs only[go_sem,q1,e]
  (repeat' (first|exact Zj.refl _ _|assumption|refine Zj.add ?_ _|refine Zj.Zt ?_ aab _|refine Zj.trans aac ?_))
 .by_cases q2:a.r=b.r
  .by_cases q3:b.n<a.n
   .have e:ZM b a:=.inr ⟨q2.symm,q3⟩;simp -implicitDefEqProofs only[go_sem,q1,q2,q3,e]
    (repeat' (first|exact Zj.refl _ _|assumption|refine Zj.add ?_ _|refine Zj.Zt ?_ aab _|refine Zj.trans aac ?_))
   .have e:¬ZM b a:=fun h=>by rcases h with h|⟨_,h⟩<;>omega
    simp -implicitDefEqProofs only[go_sem,q1,q2,q3,e]
    (repeat' (first|exact Zj.refl _ _|assumption|refine Zj.add ?_ _|refine Zj.Zt ?_ aab _|refine Zj.trans aac ?_))
  .have e:¬ZM b a:=fun h=>by rcases h with h|⟨h,_⟩<;>omega
   simp -implicitDefEqProofs only[go_sem,q1,q2,e]
   (repeat' (first|exact Zj.refl _ _|assumption|refine Zj.add ?_ _|refine Zj.Zt ?_ aab _|refine Zj.trans aac ?_))
theorem Gm(h:Hp)(n:Nat)(hn:n<=1000000000000):Zd aw T 109 #[Q J n] h fun v' h'=>v'=aD (decide (5<2*n))/\h'=h:=by
 refine Zd.XS [_] Tryz.func109 ?_;have e:((5:Int)<2*(n:Int))=(5<2*n):=by apply propext;omega
 simp -implicitDefEqProofs only[go_sem,e]
theorem U8.ts{t:Tg}(s:U8 o t h v l):Ts JZ.C 5 h v l:=⟨XB.sl s⟩
theorem Nr{T:World}{K:al->Hp->Prop}{ty:TypeId}{t:Tg}{x:Cm}{bx:Nat}{cb:Array Bool}(s:U8 o t h v l)(d:Vz o h)(hb:h[bx]? = U (Z x.C.toArray 25))(hr:(O l)<=1000000000000)(H:∀p c o' h',U8 o' t h' (ae p ((O l)+1) c) (l++[x])->Kp (fun u=>u=t) o h o' h'->K (ae p ((O l)+1) c) h'):
  PZ aw T .append #[46,46] ty cb [v,ae (U ⟨bx,0,ag⟩) 1 1] K h:=by
 have src:Sl 5 h (ae (U ⟨bx,0,ag⟩) 1 1) 1 x.C:=⟨_,1,rfl,rfl,fun _=>⟨bx,0,rfl,fun i hi=>by
  rw[Zn hb,YU,Nat.zero_add];exact a8 hi⟩⟩
 refine Q8 (E:=25) (n:=5) (bytes:=40) (k:=1) aV cc ZgZ yu rfl Zk9 s d src (Zax x) pA pA ?_;intro v' o' h' w k _;obtain⟨p,c,rfl,_⟩:=w.ZP;refine H p c o' h' ?_ k;unfold U8;rw[Y6,Tu,am];exact w
def Zh2(i:Nat)(t:Tg):Prop:=t=.ZS i\/t=.Zx i
theorem ZaA(h:Hp)(o:Ow)(wb i nb:Nat)(a:NA)(n:Nd)(x:Cm)(d:Vz o h)(N:Z6 o h wb i nb a n)(hq:n.Zx.length<=1000000000000)(hl:n.ZA.length<=1000000000000):
  Zd aw T 68 #[Zz nb,Sy x] h fun v' h'=>∃o' a',Kp (Zh2 i) o h o' h'/\Z6 o' h' wb i nb a' (add n x):=by
 have T4:=Za N.ZZ.2;have R:=ZR N.ZZ.2 N.pt.store.len;refine Zd.XS [_,_] Tryz.func68 ?_;unfold Zz Sy;have e1:nb≠h.size:=pA;simp -implicitDefEqProofs only[go_sem];obtain⟨h1,Xp⟩:=ZL (h.push (Z x.C.toArray 25):Hp);have k1:Kp Wy o h o h1:=by rw[Xp];exact Yw d _
 have x1:Yb o h1 h.size (Z x.C.toArray 25):=⟨d _ (a6 _),by rw[Xp];exact Zc⟩
 rw[<-Xp];have N1:=N.Zo k1;clear Xp;have R1:=ZR N1.ZZ.2 N1.pt.store.len;have Uh:=Za N1.ZZ.2;have hs1:=Za x1.2;have r1:rd h1 ⟨h.size,0,ag⟩ 5=U x.C:=Zy x1.2 rfl;refine VS.z (h1.size) [13] (.p 0 (.p 1 (.p 2 (.q 3 (.q 4 (.s 5 (.p 6 (.p 7 (.p 8 (.p 9 (.p 10 (.q 11 (.q 12 (.w 13 (.p 14 (.p 15 .nil)))))))))))))))) mixed vM ?_;simp -implicitDefEqProofs only[go_sem,R1.Zx,Uh,r1,hs1];refine (SX T h1 _ n.Zx x N1.pt.Zx.ts pA).use ?_;rintro _ h2 ⟨rfl,b2⟩;by_cases q1:x∈n.Zx
 .have e:add n x=n:=by unfold add;rw[if_pos (.inl q1)]
  simp -implicitDefEqProofs only[go_sem,q1,b2,e];exact⟨o,a,(Z0 k1).Yz b2,N1.Zo (ZX k1.Yn b2)⟩
 simp -implicitDefEqProofs only[go_sem,q1,b2,R1.ZA,Uh,r1,hs1];have k2:=ZX k1.Yn b2;refine (SX T h2 _ n.ZA x (N1.Zo k2).pt.ZA.ts pA).use ?_;rintro _ h3 ⟨rfl,b3⟩;have b13:Zj h1.size h1 h3:=b2.trans (b3.mono b2.size);have k3:=ZX k1.Yn b13;by_cases q2:x∈n.ZA
 .have e:add n x=n:=by unfold add;rw[if_pos (.inr q2)]
  simp -implicitDefEqProofs only[go_sem,q2,b13,e];exact⟨o,a,(Z0 k1).Yz b13,N1.Zo k3⟩
 have e:add n x = { n with Zx:=n.Zx++[x] }:=by unfold add;rw[if_neg (fun q=>q.elim q1 q2)]
 simp -implicitDefEqProofs only[go_sem,q2,b13,e];have N3:=N1.Zo k3;have x3:=x1.Zf k3;have R3:=ZR N3.ZZ.2 N3.pt.store.len;have MH:=Za N3.ZZ.2;have hs3:=Za x3.2;have r3:rd h3 ⟨h.size,0,ag⟩ 5=U x.C:=Zy x3.2 rfl;refine VS.z (h3.size) [7,10] (.p 0 (.p 1 (.p 2 (.p 3 (.q 4 (.q 5 (.s 6 (.w 7 (.p 8 (.p 9 (.w 10 .nil))))))))))) mixed vM ?_;simp -implicitDefEqProofs only[go_sem,R3.Zx,MH,r3,hs3];have k4:=Yw k3.Yn (Z x.C.toArray 25);have N4:=N3.Zo k4;refine Nr (l:=n.Zx) N4.pt.Zx k4.Yn Zc hq ?_;intro p c o5 h5 w5 k5;have b5:=N4.ZZ.Zf k5 Va;have W5:=XM b5.2 N4.pt.store.len;have w:=W5.Zx (ae p (n.Zx.length+1) c) rfl;simp -implicitDefEqProofs only[go_sem,w];exact⟨o5,_,(((Z0 k1).Yz b13).push _).trans (k5.mono fun u q=>.inr q) |>.set b5.1 (.inl rfl) _,(N4.pt.Cg k5 w5).put k5.Yn b5⟩
def Wo(i:Nat)(t:Tg):Prop:=t=.world\/t=.ZE\/t=.ZS i\/t=.Zi i\/t=.ZA i\/t=.Zx i\/t=.Zk i
theorem ZaB{β:Type}:∀(l:List (Int × β)) (ks:List Int),ks.Nodup->(∀k∈ks,(Yh l k).isSome=true)->(O ks)<=(O l):=by
 intro l
 induction l with
 | nil=>
  intro ks _ h
  cases ks with
  | nil=>simp
  | cons k ks=>have:=h k IQ;simp[Yh]at this
 | cons x l ih=>
  intro ks hn h;obtain⟨a,v⟩:=x;have h1:(ks.erase a).length<=(O l):=ih _ (hn.erase a) fun k hk=>by
   have Ln:=(List.Nodup.mem_erase_iff hn).1 hk;have:=h k Ln.2;unfold Yh at this;rw[if_neg (fun e=>Ln.1 e.symm)]at this;exact this
  have h2:(O ks)<=(ks.erase a).length+1:=by
   rw[List.length_erase];split<;>omega
  simp only[List.length_cons];omega
theorem FV{β:Type}(l:List (Int × β))(a m:Nat)(h:∀j,j<m->(Yh l ((a+j:Nat):Int)).isSome=true):m<=(O l):=by
 have:=ZaB l ((bn m).map fun j=>((a+j:Nat):Int)) ?_ ?_
 .simpa using this
 .rw[List.nodup_iff_pairwise_ne,List.pairwise_map];exact (List.nodup_range (n:=m)).imp fun {x y} hxy he=>hxy pA
 .intro k hk;simp only[List.mem_map,List.mem_range]at hk;obtain⟨j,hj,rfl⟩:=hk;exact h j hj
theorem nJ(h:Hp)(cs:List al)(s:L6 cs)(x:Cm):Zd aw T 21 #[a3 cs.toArray,Sy x] h fun v' h'=>v'=.tuple #[a3 (FM cs x).toArray,a3 #[Q J (OM cs x),Q J (Hb cs x)],Q J (UU cs x)]/\Zj h.size h h':=by
 refine (Ft T h cs x.k x.c x.s x.n x.v s.fit s.num s.yes).mono ?_;rintro v' h' ⟨H,b⟩;refine⟨?_,b⟩;rw[H];unfold doL FM OM Hb UU YT;by_cases e:OF cs x.k x.c x.s x.n x.v=0
 .rw[if_pos e,if_pos e,if_pos e,if_pos e,e]
 .rw[if_neg e,if_neg e,if_neg e,if_neg e]
theorem L6.ZaC(h:Xe JR cs=true):L6 cs:=⟨h,ME h,I8 h⟩
theorem L6.do(s:L6 cs)(x:Cm):L6 (FM cs x):=by
 obtain⟨D,a,b,h1,h2,_⟩:=nE s.fit x;refine L6.ZaC ?_;unfold doL at h1;unfold FM UU YT;by_cases e:OF cs x.k x.c x.s x.n x.v=0
 .rw[if_pos e]at h1 ⊢;simp only[List.cons.injEq,Value.agg.injEq,Array.mk.injEq]at h1;rw[h1.1];exact h2
 .rw[if_neg e]at h1 ⊢;simp only[List.cons.injEq,Value.agg.injEq,Array.mk.injEq]at h1;rw[h1.1];exact h2
theorem Hg{T:World}{K:al->Hp->Prop}{ty:TypeId}{t:Tg}{l:List Ob}{x:Ob}{bx:Nat}{cb:Array Bool}(s:XB o t 152 5 h v (O l) (ZU FQ l))(d:Vz o h)(hb:h[bx]? = U (Z (FQ x).toArray 152))(hr:(O l)<=1000000000000)(H:∀p c o' h',XB o' t 152 5 h' (ae p ((O l)+1) c) (l++[x]).length (ZU FQ (l++[x]))->Kp (fun u=>u=t) o h o' h'->K (ae p ((O l)+1) c) h'):
  PZ aw T .append #[40,40] ty cb [v,ae (U ⟨bx,0,ag⟩) 1 1] K h:=by
 have src:Sl 5 h (ae (U ⟨bx,0,ag⟩) 1 1) 1 (FQ x):=⟨_,1,rfl,rfl,fun _=>⟨bx,0,rfl,fun i hi=>by
  rw[Zn hb,YU,Nat.zero_add];exact a8 hi⟩⟩
 refine Q8 (E:=152) (n:=5) (bytes:=40) (k:=1) Zle Tryz.underlying40 Zlq Zls rfl Zlr s d src rfl pA pA ?_;intro v' o' h' w k _;obtain⟨p,c,rfl,_⟩:=w.ZP;refine H p c o' h' ?_ k;rw[Y6,Tu,am];exact w
theorem Z1.nK{o1:Ow}{h1:Hp}{wb:Nat}{nb:Nat->Nat}{a:WA}{fl:List YH}{Yy:Nat->Int}{ZE ZaD:List Ob}(W:Z1 o h wb nb a fl Yy ZE)(k:Kp (fun t=>t=.ZE) o h o1 h1)(hv:XB o1 .ZE 152 5 h1 v (O ZaD) (ZU FQ ZaD)){e:Option Hp}(w:e=U (h1.setIfInBounds wb (Z (Jd Yy { a with ZE:=v }).toArray 97))):
  ∃g,e=U g/\Z1 o1 g wb nb { a with ZE:=v } fl Yy ZaD/\Kp (fun t=>t=.world) o1 h1 o1 g:=by
 have b:=W.ZZ.Zf k Va;have kk:Kp (fun t=>t=.world) o1 h1 o1 (h1.setIfInBounds wb (Z (Jd Yy { a with ZE:=v }).toArray 97)):=(Kp.refl k.Yn (fun t=>t=.world)).set b.1 rfl _;exact⟨_,w,⟨⟨b.1,ZV b.2⟩,(W.Zb.Zf k Va).Zf kk Va,(W.Zp.Zf k Va).Zf kk Va,hv.Zf kk Va⟩,kk⟩
def nL:Option al->Nat
 | some (ae _ l _)=>l
 | _=>0
set_option maxHeartbeats 1000000 in
theorem FW(h:Hp)(o:Ow)(wb i nb:Nat)(YN:Nat->Nat)(a:NA)(n:Nd)(Xw:WA)(fl:List YH)(Yy:Nat->Int)(ZE:List Ob)(s:Int)(x:Cm)(d:Vz o h)(N:Z6 o h wb i nb a n)(W:Z1 o h wb YN Xw fl Yy ZE)(hk:n.Zi.length<=100000000000)(hl:n.ZA.length<=100000000000)(ht:(O ZE)<=100000000000)(hq:n.Zx.length<=1000000000000)(hw:n.Zk.length<=1000000000000):
  Zd aw T 110 #[Zz wb,Zz nb,Q J s,Sy x] h fun v' h'=>∃o' a' JD,Kp (Wo i) o h o' h'/\Z6 o' h' wb i nb a' (Jl n s x).n/\Z1 o' h' wb YN JD fl Yy (ZE++(Jl n s x).ts):=by
 have T4:=Za N.ZZ.2;have Am:=Za W.ZZ.2;refine Zd.XS [_,_,_,_] Tryz.func110 ?_;unfold Zz Sy;simp -implicitDefEqProofs only[go_sem];obtain⟨h1,Xp⟩:=ZL (h.push (Z x.C.toArray 25):Hp);have k1:Kp Wy o h o h1:=by rw[Xp];exact Yw d _
 have x1:Yb o h1 h.size (Z x.C.toArray 25):=⟨d _ (a6 _),by rw[Xp];exact Zc⟩
 rw[<-Xp];have N1:=N.Zo k1;have W1:=W.Zo k1;clear Xp;have R1:=ZR N1.ZZ.2 N1.pt.store.len;have Uh:=Za N1.ZZ.2;have hs1:=Za x1.2;have r1:rd h1 ⟨h.size,0,ag⟩ 5=U x.C:=Zy x1.2 rfl;refine VS.z (h1.size) [6] (.p 0 (.p 1 (.p 2 (.q 3 (.p 4 (.q 5 (.w 6 .nil))))))) mixed (by kernel_rfl) ?_;simp -implicitDefEqProofs only[go_sem,R1.Zi,Uh,r1,hs1];have km:=Qk (K:=fun _ _=>True) (x:=a3 x.C.toArray) (n:=s) Rz N1.pt.Zi.2 (P:=aw);rw[Qk Rz N1.pt.Zi.2];have k2:Kp (fun t=>t=.Zi i) o h1 o (h1.setIfInBounds a.Zi (Jt (ins (VC Sy n.Zi) s (a3 x.C.toArray)))):=(Kp.refl k1.Yn (fun t=>t=.Zi i)).set N1.pt.Zi.1 rfl _;have m2:U9 o (.Zi i) (h1.setIfInBounds a.Zi (Jt (ins (VC Sy n.Zi) s (a3 x.C.toArray)))) a.Zi (VC Sy (ins n.Zi s x)):=
  ⟨N1.pt.Zi.1,by rw[ZV N1.pt.Zi.2,Oj];rfl⟩
 have N2:Z6 o (h1.setIfInBounds a.Zi (Jt (ins (VC Sy n.Zi) s (a3 x.C.toArray)))) wb i nb a (Jk n s x):=⟨N1.ZZ.Zf k2 (by intro e;cases e),N1.pt.sQ k2 m2⟩
 have W2:=W1.Zf k2 (by rintro t rfl;simp[Tg.of]);have K2:Kp (Wo i) o h o (h1.setIfInBounds a.Zi (Jt (ins (VC Sy n.Zi) s (a3 x.C.toArray)))):=(Z0 k1).trans (k2.mono fun t q=>.inr (.inr (.inr (.inl q))));generalize (h1.setIfInBounds a.Zi (Jt (ins (VC Sy n.Zi) s (a3 x.C.toArray))))=h2 at *;clear km;unfold Jl;obtain⟨L,hL⟩:=ZL ((Jk n s x).Zi.length);have hLb:L<=100000000001:=by
  rw[hL];unfold Jk;simp only[Mu];split<;>omega
 obtain⟨n0,DK⟩:=ZL (Jk n s x);rw[<-DK]at N2 hL ⊢;rw[<-hL];have hl0:n0.ZA.length<=100000000000:=by rw[DK];exact hl
 have hq0:n0.Zx.length<=1000000000000:=by rw[DK];exact hq
 have hw0:n0.Zk.length<=1000000000000:=by rw[DK];exact hw
 clear N1 W1 R1 Uh hs1 r1 k2 m2 N W hk hl hq hw DK k1 x1;simp -implicitDefEqProofs only[go_sem];refine VS.Yk (fun F g=>F 0=aN (U ⟨wb,0,ag⟩)/\F 1=aN (U ⟨nb,0,ag⟩)/\∃o' a' JD m ts f j,Kp (Wo i) o h o' g/\Z6 o' g wb i nb a' m/\Z1 o' g wb YN JD fl Yy (ZE++ts)/\f+j=L+1/\m.Zi=n0.Zi/\m.ZA.length=n0.ZA.length+j /\
   m.Zx.length<=1000000000000/\m.Zk.length<=1000000000000/\(O ts)<=j/\(∀j',j'<j->(Yh n0.Zi ((n0.ZA.length+j':Nat):Int)).isSome=true)/\(Yg (L+1) n0).1=(Yg f m).1/\(Yg (L+1) n0).2=ts++(Yg f m).2)
  (fun F g=>n0.ZA.length+L+2-nL (hc g ⟨nb,11,ag⟩)) rfl ⟨rfl,rfl,o,a,Xw,n0,[],L+1,0,K2,N2,by rw[be];exact W2,rfl,rfl,rfl,hq0,hw0,a6 _,fun j' h=>by omega,rfl,rfl⟩ ?_
 rintro F g ⟨f0,f1,o',a',JD,m,ts,f,j,K,M,V,hf,mI,gh,hmq,hmw,hts,hjs,g1,g2⟩;have R:=ZR M.ZZ.2 M.pt.store.len;have Zd2:=Za M.ZZ.2;obtain⟨lp,lc,NL,hlc⟩:=XB.ZP M.pt.ZA;have mu:nL (hc g ⟨nb,11,ag⟩)=m.ZA.length:=by rw[R.ZA,NL];rfl
 rw[mu];have R11:=R.ZA;rw[NL]at R11;have lk:=fun (K:al->Hp->Prop)=>Xi (K:=K) (n:=(m.ZA.length:Int)) (c:=true) Rz L4 M.pt.Zi.2;have SZ:=fun (K:al->Hp->Prop) (x:Obj)=>Xi (h:=g.push x) (K:=K) (n:=(m.ZA.length:Int)) (c:=true) Rz L4 ((ZJ (Za M.pt.Zi.2)).trans M.pt.Zi.2);rw[Js]at lk;simp only[Js]at SZ;simp -implicitDefEqProofs only[go_sem,f0,f1]
 cases hx:Yh m.Zi (m.ZA.length:Int) with
 | none=>
  rw[hx]at lk;simp only[hx,Option.map_none,Option.getD_none,Option.isSome_none,↓reduceIte]at lk SZ;have e:f≠0->Yg f m=(m,[]):=fun Y7=>by
   obtain⟨f',rfl⟩:∃f',f=f'+1:=⟨f-1,by omega⟩
   unfold Yg;rw[hx]
  have e':Yg f m=(m,[]):=by
   by_cases q:f=0
   .subst q;rfl
   .exact e q
  rw[e']at g1 g2;refine VS.mono (N:=fun F' g'=>Zj g.size g g'/\F' 9=aD false) ?_ ?_ (fun _ _ _ h=>h) (fun _ _ h=>h)
  .refine VS.z (g.size) [9,14] (.p 0 (.p 1 (.p 2 (.q 3 (.p 4 (.p 5 (.p 6 (.q 7 (.p 8 (.or 9 (.p 10 (.p 11 (.p 12 (.s 13 (.w 14 (.p 15 .nil)))))) (.s 13 (.w 9 (.p 10 (.p 11 (.p 12 (.w 14 (.p 15 .nil))))))))))))))))) mixed (by kernel_rfl) ?_;simp -implicitDefEqProofs only[go_sem,f0,f1,R.Zi,R11,Zd2,lk,SZ]
   repeat' (first|exact Zj.refl _ _|exact Zj.push (a6 _) _|refine cn ?_ ?_)
  .rintro F' g' ⟨b,f9⟩;simp -implicitDefEqProofs only[go_sem,f9];rw[g1,g2,be];exact⟨o',a',JD,K.Yz b,M.Zo (ZX K.Yn b),V.Zo (ZX K.Yn b)⟩
 | some y=>
  rw[hx]at lk;simp only[hx,bA,Option.getD_some,Option.isSome_some,↓reduceIte]at lk SZ;refine VS.mono (N:=fun F' g'=>Zj g.size g g'/\F' 0=aN (U ⟨wb,0,ag⟩)/\F' 1=aN (U ⟨nb,0,ag⟩)/\F' 9=aD true/\F' 8=aN (U ⟨g.size,0,ag⟩)/\g'[g.size]? = U (Z y.C.toArray 25)) ?_ ?_ (fun _ _ _ h=>h) (fun _ _ h=>h)
  .refine VS.z (g.size) [9,14] (.p 0 (.p 1 (.p 2 (.q 3 (.p 4 (.p 5 (.p 6 (.q 7 (.p 8 (.or 9 (.p 10 (.p 11 (.p 12 (.s 13 (.w 14 (.p 15 .nil)))))) (.s 13 (.w 9 (.p 10 (.p 11 (.p 12 (.w 14 (.p 15 .nil))))))))))))))))) mixed (by kernel_rfl) ?_;simp -implicitDefEqProofs only[go_sem,f0,f1,R.Zi,R11,Zd2,lk,SZ,Sy];have gp:∀x:Obj,(g.push x)[g.size]? = U x:=fun x=>Zc
   repeat' (first|exact Zj.refl _ _|exact Zj.push (a6 _) _|exact gp _|refine cn ?_ ?_)
  .rintro F2 g2 ⟨b2,f20,f21,f29,f28,x2⟩;simp -implicitDefEqProofs only[go_sem,f29];have kb:=ZX K.Yn b2;have M2:=M.Zo kb;have V2:=V.Zo kb;have bx2:Yb o' g2 g.size (Z y.C.toArray 25):=⟨K.Yn _ (a6 _),x2⟩
   have K2:=K.Yz b2;have Ov:=Zd2;clear R R11 lk SZ Zd2 mu;have R2:=ZR M2.ZZ.2 M2.pt.store.len;have Us:=Za M2.ZZ.2;have hs2:=Za x2;have r2:rd g2 ⟨g.size,0,ag⟩ 5=U y.C:=Zy x2 rfl;refine VS.z (g2.size) [7,10] (.p 0 (.p 1 (.p 2 (.p 3 (.q 4 (.q 5 (.s 6 (.w 7 (.p 8 (.p 9 (.w 10 .nil))))))))))) mixed (by kernel_rfl) ?_;simp -implicitDefEqProofs only[go_sem,f20,f21,f28,R2.ZA,Us,hs2,r2];have k3:=Yw K2.Yn (Z y.C.toArray 25);refine Nr (l:=m.ZA) (M2.Zo k3).pt.ZA k3.Yn Zc (by omega) ?_;intro p c o3 g3 w3 kk3;have k3':Kp (fun t=>t=.ZA i) o' g2 o3 g3:=(Z0 k3).trans kk3;have b3:=M2.ZZ.Zf k3' (by intro e;cases e);have w:=(XM b3.2 M2.pt.store.len).ZA (ae p (m.ZA.length+1) c) rfl;simp -implicitDefEqProofs only[go_sem,w];have M4:=(M2.pt.ZdZ k3' w3).put k3'.Yn b3;have kn:Kp (fun t=>t=.ZS i) o3 g3 o3 (g3.setIfInBounds nb (Jh { m with ZA:=m.ZA++[y] } { a' with ZA:=ae p (m.ZA.length+1) c })):=(Kp.refl k3'.Yn (fun t=>t=.ZS i)).set b3.1 rfl _;have V4:=(V2.Zf k3' (by rintro t rfl;simp[Tg.of])).Zf kn (by rintro t rfl;simp[Tg.of]);have x4:=(bx2.Zf k3').Zf kn;have K4:Kp (Wo i) o h o3 (g3.setIfInBounds nb (Jh { m with ZA:=m.ZA++[y] } { a' with ZA:=ae p (m.ZA.length+1) c })):=
    (K2.trans (k3'.mono fun t q=>.inr (.inr (.inr (.inr (.inl q)))))).trans (kn.mono fun t q=>.inr (.inr (.inl q)))
   obtain⟨g4,HW⟩:=ZL (g3.setIfInBounds nb (Jh m { a' with ZA:=ae p (m.ZA.length+1) c }));rw[show Jh { m with ZA:=m.ZA++[y] } { a' with ZA:=ae p (m.ZA.length+1) c } = Jh m { a' with ZA:=ae p (m.ZA.length+1) c } from rfl,<-HW]at M4 V4 x4 K4;rw[<-HW];clear HW kn;have R4:=ZR M4.ZZ.2 M4.pt.store.len;have HX:=Za M4.ZZ.2;have hs4:=Za x4.2;have r4:rd g4 ⟨g.size,0,ag⟩ 5=U y.C:=Zy x4.2 rfl;have call:=fun G=>nJ T G m.store M4.pt.store y;have R4s:rd g4 ⟨nb,12,ag⟩ 40=U m.store:=R4.store;have hD:=(M4.pt.store.do y)
   have hD0:FM ({ m with ZA:=m.ZA++[y] }:Nd).store y=FM m.store y:=rfl;rw[hD0]at hD;obtain⟨D,hDe⟩:=ZL (FM m.store y);obtain⟨E,hE⟩:=ZL (UU m.store y);obtain⟨c1,WB⟩:=ZL (OM m.store y);obtain⟨c2,EJ⟩:=ZL (Hb m.store y);rw[<-hDe]at hD;rw[<-hDe,<-hE,<-WB,<-EJ]at call;have Hh:=hD.len;have AV:=hD.one;unfold Sy at call;have HG:=ZW (zs:=Yj) (vs:=D) (by rw[Hh];rfl);unfold Yj at HG;simp only[rep,List.cons_append,bw]at HG;have wA:∀(G:Hp) (k:Nat),G[k]? = U (Z Yj.toArray 55)->wr G ⟨k,0,ag⟩ D=U (G.setIfInBounds k (Z D.toArray 55)):=fun G k hx=>by
    rw[Ye hx 0 D,ZW (by rw[Hh];rfl),if_pos ⟨by rw[Hh];simp[Yj,rep],AV⟩]
   have wB:∀(G:Hp) (k:Nat),G[k]? = U (Z [Q J 0,Q J 0].toArray 51)->wr G ⟨k,0,ag⟩ [Q J c1,Q J c2]=U (G.setIfInBounds k (Z [Q J c1,Q J c2].toArray 51)):=fun G k hx=>by
    rw[Ye hx 0 _];rfl
   have gl:∀(G:Hp) (X Y:Obj),((G.push X).push Y)[G.size]? = U X:=fun G X Y=>by rw[ZJ (by simp),Zc]
   have gs:∀(G:Hp) (k:Nat) (X Y:Obj),((G.setIfInBounds k X).push Y)[G.size]? = U Y:=fun G k X Y=>by
    have:=Zc (h:=G.setIfInBounds k X) (o:=Y);rwa [Array.size_setIfInBounds]at this
   have gl':=gs;have gr:∀(G:Hp) (X Y:Obj),((G.push X).push Y)[G.size+1]? = U Y:=fun G X Y=>by
    have:=Zc (h:=G.push X) (o:=Y);rwa [a9]at this
   refine VS.mono (N:=fun F' g'=>Zj g4.size g4 g'/\F' 0=aN (U ⟨wb,0,ag⟩)/\F' 1=aN (U ⟨nb,0,ag⟩)/\F' 8=aN (U ⟨g.size,0,ag⟩)/\∃A B,F' 10=aN (U ⟨A,0,ag⟩)/\F' 11=aN (U ⟨B,0,ag⟩)/\g4.size<=A/\g4.size<=B/\g'[A]? = U (Z D.toArray 55)/\g'[B]? = U (Z [Q J c1,Q J c2].toArray 51)) ?_ ?_ (fun _ _ _ h=>h) (fun _ _ h=>h)
   .refine VS.z (g4.size) [5,12,13] (.p 0 (.p 1 (.p 2 (.q 3 (.q 4 (.or 5 (.p 6 (.p 7 (.p 8 (.p 9 (.or 10 (.s 11 (.w 12 (.w 13 (.p 14 .nil)))) (.s 11 (.s 10 (.w 12 (.w 13 (.p 14 .nil)))))))))) (.or 10 (.or 5 (.p 6 (.p 7 (.p 8 (.p 9 (.s 11 (.w 12 (.w 13 (.p 14 .nil)))))))) (.s 11 (.w 5 (.p 6 (.p 7 (.p 8 (.p 9 (.w 12 (.w 13 (.p 14 .nil)))))))))) (.s 11 (.or 5 (.p 6 (.p 7 (.p 8 (.p 9 (.s 10 (.w 12 (.w 13 (.p 14 .nil)))))))) (.s 10 (.w 5 (.p 6 (.p 7 (.p 8 (.p 9 (.w 12 (.w 13 (.p 14 .nil)))))))))))))))))) mixed (by kernel_rfl) ?_;simp -implicitDefEqProofs only[go_sem,f20,f21,f28,R4s,HX,hs4,r4]
    repeat' (first|with_reducible exact Zj.refl _ _|with_reducible exact Zj.push (by omega) _|with_reducible refine cn ?_ ?_)
    all_goals first
     | (refine (call g4).use ?_
        rintro _ g5 ⟨rfl,b5⟩;have s5:=b5.size;simp -implicitDefEqProofs only[go_sem,b5,Hh,AV,HG];refine⟨⟨f20,f21,f28,_,_,rfl,rfl,s5,by omega,gl _ _ _,gr _ _ _⟩,⟨f20,f21,f28,_,_,rfl,rfl,by omega,s5,gr _ _ _,gl _ _ _⟩⟩)
     | (refine (call (g4.push (Z _ 55))).use ?_
        rintro _ g5 ⟨rfl,b5⟩;have s5:=b5.size;rw[a9]at s5;have B5:Zj g4.size g4 g5:=(Zj.push (a6 _) _).trans (b5.mono (by simp));have xA:=b5.get (k:=g4.size) (by simp) Zc;have PM:=wA _ _ xA;have zA:=Za xA;have gA:=ZV (o:=Z D.toArray 55) xA;simp -implicitDefEqProofs only[go_sem,B5,Hh,AV,PM,zA];exact⟨f20,f21,f28,_,_,rfl,rfl,a6 _,by omega,by rw[ZJ (by simpa using zA)];exact gA,gs _ _ _ _⟩)
     | (refine (call (g4.push (Z _ 51))).use ?_
        rintro _ g5 ⟨rfl,b5⟩;have s5:=b5.size;rw[a9]at s5;have B5:Zj g4.size g4 g5:=(Zj.push (a6 _) _).trans (b5.mono (by simp));have xB:=b5.get (k:=g4.size) (by simp) Zc;have FX:=wB _ _ xB;have zB:=Za xB;have gB:=ZV (o:=Z [Q J c1,Q J c2].toArray 51) xB;simp -implicitDefEqProofs only[go_sem,B5,Hh,AV,FX,HG,zB];exact⟨f20,f21,f28,_,_,rfl,rfl,by omega,a6 _,gl' _ _ _ _,by rw[ZJ (by simpa using zB)];exact gB⟩)
     | (refine (call ((g4.push (Z _ 55)).push (Z _ 51))).use ?_
        rintro _ g5 ⟨rfl,b5⟩;have s5:=b5.size;rw[a9,a9]at s5;have B5:Zj g4.size g4 g5:=((Zj.push (a6 _) _).YX (by simp) _).trans (b5.mono (by simp;omega));have xA:=b5.get (k:=g4.size) (by simp;omega) (gl _ _ _);have xB:=b5.get (k:=g4.size+1) (by simp) (gr _ _ _);have PM:=wA _ _ xA;have zA:=Za xA;have Ig:=(Xg (o:=Z D.toArray 55) (show g4.size≠g4.size+1 by omega)).trans xB;have FX:=wB _ _ Ig;have zB:=Za Ig;simp -implicitDefEqProofs only[go_sem,B5,Hh,AV,PM,zA,FX,zB];exact⟨f20,f21,f28,_,_,rfl,rfl,by omega,by omega,(Xg (by omega)).trans (ZV xA),ZV Ig⟩)
     | (refine (call ((g4.push (Z _ 51)).push (Z _ 55))).use ?_
        rintro _ g5 ⟨rfl,b5⟩;have s5:=b5.size;rw[a9,a9]at s5;have B5:Zj g4.size g4 g5:=((Zj.push (a6 _) _).YX (by simp) _).trans (b5.mono (by simp;omega));have xB:=b5.get (k:=g4.size) (by simp;omega) (gl _ _ _);have xA:=b5.get (k:=g4.size+1) (by simp) (gr _ _ _);have PM:=wA _ _ xA;have zA:=Za xA;have Ig:=(Xg (o:=Z D.toArray 55) (show g4.size+1≠g4.size by omega)).trans xB;have FX:=wB _ _ Ig;have zB:=Za Ig;simp -implicitDefEqProofs only[go_sem,B5,Hh,AV,PM,zA,FX,zB];exact⟨f20,f21,f28,_,_,rfl,rfl,by omega,by omega,(Xg (by omega)).trans (ZV xA),ZV Ig⟩)
   .rintro F5 g5 ⟨b5,f50,f51,f58,A,B,f5A,f5B,hA,hB,yA,yB⟩;have Ck:=ZX K4.Yn b5;have M5:=M4.Zo Ck;have V5:=V4.Zo Ck;have x5:=x4.Zf Ck;have K5:=K4.Yz b5;have z5:=Za M5.ZZ.2;have rA:rd g5 ⟨A,0,ag⟩ 40=U D:=Zy yA Hh;obtain⟨g6,w6,M6,k6⟩:=Yi.write (n:={ m with ZA:=m.ZA++[y],store:=D }) { M5.pt with store:=hD } K5.Yn M5.ZZ ((XM M5.ZZ.2 M5.pt.store.len).store D Hh AV);have V6:=V5.Zf k6 (by rintro t rfl;simp[Tg.of]);have x6:=x5.Zf k6;have K6:Kp (Wo i) o h o3 g6:=K5.trans (k6.mono fun t q=>.inr (.inr (.inl q)));have xB6:=(show Yb o3 g5 B _ from⟨K4.Yn _ (by omega),yB⟩).Zf k6;have R6:=ZR M6.ZZ.2 Hh;have z6:=Za M6.ZZ.2;clear R4 R4s HX hs4 r4 R2 Us hs2 r2;simp -implicitDefEqProofs only[go_sem,f50,f51,f58,f5A,f5B,rA,w6,Hh,R6.Zx,z5];refine (dA T g6 o3 (.Zx i) _ m.Zx g.size y M6.pt.Zx K6.Yn x6 (by omega)).use ?_;rintro v7 g7 ⟨q7,k7⟩;obtain⟨p7,c7,rfl,_⟩:=XB.ZP q7;have b7:=M6.ZZ.Zf k7 (by intro e;cases e);obtain⟨g8,w8,M8,k8⟩:=(M6.pt.Cg k7 q7).write k7.Yn b7 ((XM b7.2 Hh).Zx (ae p7 _ c7) rfl);have z7:=Za b7.2;have V8:=(V6.Zf k7 (by rintro t rfl;simp[Tg.of])).Zf k8 (by rintro t rfl;simp[Tg.of]);have x8:=(x6.Zf k7).Zf k8;have xB8:=(xB6.Zf k7).Zf k8;have K8:Kp (Wo i) o h o3 g8:=(K6.trans (k7.mono fun t q=>.inr (.inr (.inr (.inr (.inr (.inl q))))))).trans (k8.mono fun t q=>.inr (.inr (.inl q)));have R8:=ZR M8.ZZ.2 Hh;have z8:=Za M8.ZZ.2;simp -implicitDefEqProofs only[go_sem,f50,f51,f58,w8,z7,R8.Zk];refine (FT T g8 _ m.Zk g.size y M8.pt.Zk.ts x8.2 (by omega)).use ?_;rintro _ g9 ⟨rfl,b9⟩;have kb9:=ZX K8.Yn b9;have M9:=M8.Zo kb9;have V9:=V8.Zo kb9;have x9:=x8.Zf kb9;have xB9:=xB8.Zf kb9;have K9:=K8.Yz b9;have PK:∃f',f=f'+1:=⟨f-1,by
     have:f≠0:=fun q=>by
      subst q;have hj:j=L+1:=by omega
      have:=FV n0.Zi n0.ZA.length (L+2) fun j' hj'=>by
       by_cases q:j'<j
       .exact hjs j' q
       .have:j'=j:=by omega
        subst this;rw[<-gh,<-mI,hx];rfl
      rw[<-hL]at this;omega
     omega⟩
    obtain⟨f',rfl⟩:=PK;have lg:Yg (f'+1) m=((Yg f' (J4 m y)).1,WR m y++(Yg f' (J4 m y)).2):=by
     rw[Yg,hx]
    rw[lg]at g1 g2;have Zm0:∀j',j'<j+1->(Yh n0.Zi ((n0.ZA.length+j':Nat):Int)).isSome=true:=fun j' hj'=>by
     by_cases q:j'<j
     .exact hjs j' q
     .have:j'=j:=by omega
      subst this;rw[<-gh,<-mI,hx];rfl
    have hfl:(m.Zx.filter fun z=>decide (z≠y)).length<=m.Zx.length:=List.length_filter_le _ _;have mono:∀(G:Hp) (nn:Nd) (aa:NA) (oo:Ow),Z6 oo G wb i nb aa nn->nn.ZA.length=m.ZA.length+1->n0.ZA.length+L+2-nL (hc G ⟨nb,11,ag⟩)<n0.ZA.length+L+2-m.ZA.length:=fun G nn aa oo H hh=>by
     have RR:=ZR H.ZZ.2 H.pt.store.len;obtain⟨lp,lc,NL,hlc⟩:=XB.ZP H.pt.ZA;have:nL (hc G ⟨nb,11,ag⟩)=nn.ZA.length:=by rw[RR.ZA,NL];rfl
     rw[this,hh];omega
    by_cases hy:y∈m.Zk
    case neg=>
     have e1:RD m.Zk y = -1:=by unfold RD;rw[if_neg hy]
     have e2:WR m y=[]:=by unfold WR;rw[if_neg hy]
     have e3:m.Zk.erase y=m.Zk:=List.erase_of_not_mem hy;rw[e2]at g2;have e4:J4 m y = { m with ZA:=m.ZA++[y],store:=D,Zx:=m.Zx.filter (fun z=>decide (z≠y)) }:=by unfold J4;rw[e3,<-hDe]
     rw[e4]at g1 g2;rw[bw]at g2;simp -implicitDefEqProofs only[go_sem,e1];unfold XN;refine⟨⟨f50,f51,o3,_,JD,_,ts,f',j+1,K9,M9,V9,by omega,mI,by simp[gh];omega,by simp only;omega,hmw,by omega,Zm0,g1,g2⟩,mono _ _ _ _ M9 (by simp)⟩
    have e1:0<=RD m.Zk y:=(Ka _ _).2 hy;have e5:RD m.Zk y=(m.Zk.idxOf y:Nat):=by unfold RD;rw[if_pos hy]
    obtain⟨r,hr⟩:=ZL (m.Zk.idxOf y);have hrl:r<m.Zk.length:=by rw[hr];exact ba hy
    rw[<-hr]at e5;have e2:WR m y=[⟨m.me,y.c,y.s,OM m.store y,Hb m.store y⟩]:=by unfold WR;rw[if_pos hy]
    have e3:m.Zk.erase y=m.Zk.take r++m.Zk.drop (r+1):=by
     rw[List.erase_eq_eraseIdx_of_idxOf,List.eraseIdx_eq_take_drop_succ];exact hr.symm
    rw[e2]at g2;have R9:=ZR M9.ZZ.2 Hh;have z9:=Za M9.ZZ.2;simp -implicitDefEqProofs only[go_sem,e1,e5,f50,f51,f58,R9.Zk,z9];refine (dx T g9 o3 (.Zk i) _ m.Zk.length r _ M9.pt.Zk K9.Yn (Zd1 _) hrl (by omega)).use ?_;rintro v10 g10 ⟨q10,sR⟩;have wl:(m.Zk.erase y).length=m.Zk.length-1:=by rw[e3,am,a5,aO];omega
    have Q10:U8 o3 (.Zk i) g10 v10 (m.Zk.erase y):=by
     unfold U8;rw[wl,e3,Y6,<-Nq L9 _ _ (by omega),<-RE L9 _ _ (by omega)];exact q10
    obtain⟨p10,c10,rfl,_⟩:=XB.ZP Q10;have b10:=M9.ZZ.Zf sR (by intro e;cases e);obtain⟨g11,w11,M11,vF⟩:=(M9.pt.He sR Q10).write sR.Yn b10 ((XM b10.2 Hh).Zk (ae p10 _ c10) rfl);have z10:=Za b10.2;have V11:=(V9.Zf sR (by rintro t rfl;simp[Tg.of])).Zf vF (by rintro t rfl;simp[Tg.of]);have x11:=(x9.Zf sR).Zf vF;have Zm1:=(xB9.Zf sR).Zf vF;have K11:Kp (Wo i) o h o3 g11:=(K9.trans (sR.mono fun t q=>.inr (.inr (.inr (.inr (.inr (.inr q))))))).trans (vF.mono fun t q=>.inr (.inr (.inl q)));have R11:=ZR M11.ZZ.2 Hh;have z11:=Za M11.ZZ.2;have U11:=XX V11.ZZ.2;have ZvH:=Za V11.ZZ.2;have rx1:hc g11 ⟨g.size,1,ag⟩=U (Q J y.c):=Zn x11.2;have rx2:hc g11 ⟨g.size,2,ag⟩=U (Q J y.s):=Zn x11.2;have rB:rd g11 ⟨B,0,ag⟩ 2=U [Q J c1,Q J c2]:=Zy Zm1.2 rfl;have ZvJ:=Za x11.2;have ZvK:=Za Zm1.2;simp -implicitDefEqProofs only[go_sem,w11,z10];refine VS.z (g11.size) [17,21] (.p 0 (.p 1 (.p 2 (.p 3 (.p 4 (.q 5 (.p 6 (.p 7 (.p 8 (.q 9 (.p 10 (.q 11 (.p 12 (.q 13 (.q 14 (.p 15 (.s 16 (.w 17 (.p 18 (.p 19 (.p 20 (.w 21 .nil)))))))))))))))))))))) mixed (by kernel_rfl) ?_;simp -implicitDefEqProofs only[go_sem,f50,f51,f58,f5B,U11.ZE,R11.me,rx1,rx2,rB,z11,ZvH,ZvJ,ZvK];have k12:=Yw K11.Yn (Z (FQ ⟨m.me,y.c,y.s,c1,c2⟩).toArray 152);have V12:=V11.Zo k12;refine Hg (l:=ZE++ts) (x:=⟨m.me,y.c,y.s,c1,c2⟩) V12.ZE k12.Yn Zc (by rw[am];omega) ?_;intro p13 c13 o13 g13 q13 k13;have b13:=V12.ZZ.Zf k13 (by intro e;cases e);obtain⟨g14,w14,V14,k14⟩:=V12.nK k13 q13 ((XX b13.2).ZfV (ae p13 _ c13) rfl);have z13:=Za b13.2;simp -implicitDefEqProofs only[go_sem,w14,z13];have M14:=((M11.Zo k12).Zf k13 (by rintro t rfl;simp[Tg.of])).Zf k14 (by rintro t rfl;simp[Tg.of]);have K14:Kp (Wo i) o h o13 g14:=(((K11.trans (Z0 k12)).trans (k13.mono fun t q=>.inr (.inl q))).trans (k14.mono fun t q=>.inl q))
    have e4:J4 m y = { m with ZA:=m.ZA++[y],store:=D,Zx:=m.Zx.filter (fun z=>decide (z≠y)),Zk:=m.Zk.erase y }:=by unfold J4;rw[<-hDe]
    rw[e4]at g1 g2;rw[<-WB,<-EJ]at g2;obtain⟨ZIt,V15⟩:∃A,Z1 o13 g14 wb YN A fl Yy (ZE++(ts++[⟨m.me,y.c,y.s,c1,c2⟩])):=⟨_,by rw[<-a0];exact V14⟩
    rw[<-a0]at g2;unfold XN;refine⟨⟨f50,f51,o13,_,_,_,ts++[⟨m.me,y.c,y.s,c1,c2⟩],f',j+1,K14,M14,V15,by omega,mI,by simp[gh];omega,by simp only;omega,by simp only;omega,by simp;omega,Zm0,g1,g2⟩,mono _ _ _ _ M14 (by simp)⟩
def Zm2(o:Ow)(h:Hp)(wb:Nat)(YN:Nat->Nat)(fl:List YH)(Yy:Nat->Int)(ZE:List Ob)(h':Hp):Prop:=
 ∃o' JD,Kp nH o h o' h'/\Z1 o' h' wb YN JD fl Yy ZE
theorem nM(h:Hp)(o:Ow)(wb nb:Nat)(YN:Nat->Nat)(me:Nat)(Xw:WA)(fl:List YH)(Yy:Nat->Int)(ZE:List Ob)(b3 b4 b5 b7:Nat)(l:YH)(w5 w:al)(vs:List Vt)(d:Vz o h)(W:Z1 o h wb YN Xw fl Yy ZE)(Dp:hc h ⟨nb,0,ag⟩=U (Q J me))(T4:nb<h.size)(Xf:(O fl)<=1000000000000)(x3:Yb o h b3 (Z [Zz wb].toArray 91))(x4:Yb o h b4 (Z [Zz nb].toArray 98))(x5:Yb o h b5 (Z (XV l w5).toArray 135))(x7:Yb o h b7 (Z [w].toArray 103))(iv:TY o h w vs):
  Zd aw T 106 #[Zz b3,Zz b4,Zz b5,Zz b7] h fun v' h'=>Zm2 o h wb YN (fl++[⟨1,me,l.Jw,l.b,SU,vs⟩]) Yy ZE h':=by
 obtain⟨pw,cw,rfl⟩:=iv.ZP;refine Zd.XS [_,_,_,_] Tryz.func106 ?_;unfold Zz;have r3:hc h ⟨b3,0,ag⟩=U (Zz wb):=Zn x3.2;have r4:hc h ⟨b4,0,ag⟩=U (Zz nb):=Zn x4.2;have r5:hc h ⟨b5,1,ag⟩=U (Q J l.Jw):=Zn x5.2;have r6:rd h ⟨b5,3,ag⟩ 2=U [Q J l.b.r,Q J l.b.n]:=by rw[YL x5.2 (by simp[XV])];rfl
 have r7:hc h ⟨b7,0,ag⟩=U (ae pw (O vs) cw):=Zn x7.2;simp -implicitDefEqProofs only[go_sem,r3,r4,r5,r6,r7];refine (V3 T h o wb nb YN me Xw fl Yy ZE l.Jw ⟨1,0,0,l.b,SU,vs⟩ _ d W Dp T4 iv Xf).use ?_;rintro v' h' ⟨o',JD,k,_,W'⟩;simp -implicitDefEqProofs only[go_sem];exact⟨o',JD,k,W'⟩
theorem nN(h:Hp)(o:Ow)(wb nb:Nat)(YN:Nat->Nat)(me:Nat)(Xw:WA)(fl:List YH)(Yy:Nat->Int)(ZE:List Ob)(b3 b4 b5:Nat)(l:YH)(w5:al)(d:Vz o h)(W:Z1 o h wb YN Xw fl Yy ZE)(Dp:hc h ⟨nb,0,ag⟩=U (Q J me))(T4:nb<h.size)(Xf:(O fl)<=1000000000000)(x3:Yb o h b3 (Z [Zz wb].toArray 91))(x4:Yb o h b4 (Z [Zz nb].toArray 98))(x5:Yb o h b5 (Z (XV l w5).toArray 135)):
  Zd aw T 111 #[Zz b3,Zz b4,Zz b5] h fun v' h'=>Zm2 o h wb YN (fl++[⟨3,me,l.Jw,Jq,l.v,[]⟩]) Yy ZE h':=by
 refine Zd.XS [_,_,_] Tryz.func111 ?_;unfold Zz;have r3:hc h ⟨b3,0,ag⟩=U (Zz wb):=Zn x3.2;have r4:hc h ⟨b4,0,ag⟩=U (Zz nb):=Zn x4.2;have r5:hc h ⟨b5,1,ag⟩=U (Q J l.Jw):=Zn x5.2;have r6:rd h ⟨b5,5,ag⟩ 8=U (Zv l.v):=by rw[YL x5.2 (by simp[XV])];rfl
 unfold Zv at r6;simp -implicitDefEqProofs only[go_sem,r3,r4,r5,r6];refine (V3 T h o wb nb YN me Xw fl Yy ZE l.Jw ⟨3,0,0,Jq,l.v,[]⟩ (ae ag 0 0) d W Dp T4 (Im.nil _ _ _ _) Xf).use ?_;rintro v' h' ⟨o',JD,k,_,W'⟩;simp -implicitDefEqProofs only[go_sem];exact⟨o',JD,k,W'⟩
def Zh6(i:Nat)(t:Tg):Prop:=t=.world\/t=.Zp\/t=.ZS i\/t=.ZI i\/t=.Ja i
theorem Zd4(h:Hp)(o:Ow)(wb i nb:Nat)(YN:Nat->Nat)(Xw:WA)(fl:List YH)(Yy:Nat->Int)(ZE:List Ob)(a:NA)(n:Nd)(acc:UP)(to:Int)(b:YA)(vs:List Vt)(b6 b4 b9:Nat)(u:al)(d:Vz o h)(N:Z6 o h wb i nb a n)(W:Z1 o h wb YN Xw fl Yy ZE)(Xf:(O fl)<=1000000000000)(x6:OP o h b6 acc)(x4:Yb o h b4 (Z [Zz nb].toArray 98))(x9:Yb o h b9 (Z [u].toArray 1))(hu:Zau o h wb nb u to b vs):
  Zd aw T 108 #[Zz b6,Zz b4,Zz b9] h fun v' h'=>∃o' a' JD,Kp (Zh6 i) o h o' h'/\Z6 o' h' wb i nb a' { n with Zq:=acc }/\Z1 o' h' wb YN JD (fl++[⟨1,n.me,to,b,SU,vs⟩]) Yy ZE:=by
 obtain⟨wa,xa,ia⟩:=x6;obtain⟨pa,ca,rfl⟩:=ia.ZP;obtain⟨b3,jj,b5,b7,l,w5,w,rfl,y3,y4,y5,rfl,rfl,y7,iv⟩:=hu;have T4:=Za N.ZZ.2;refine Zd.XS [_,_,_] Tryz.func108 ?_;unfold Zz;have r4:hc h ⟨b4,0,ag⟩=U (Zz nb):=Zn x4.2;have r6:rd h ⟨b6,0,ag⟩ 3=U [Q J acc.p.r,Q J acc.p.n,ae pa (O acc.l) ca]:=Zy xa.2 rfl;obtain⟨g1,w1,N1,k1⟩:=Yi.write (a:={ a with XW:=ae pa (O acc.l) ca }) (n:={ n with Zq:=acc }) { N.pt with XW:=ia } d N.ZZ ((XM N.ZZ.2 N.pt.store.len).Zq acc.p.r acc.p.n (ae pa (O acc.l) ca) rfl);have W1:=W.Zf k1 (by rintro t rfl;simp[Tg.of]);have x91:=x9.Zf k1;have r9:hc g1 ⟨b9,0,ag⟩=U (Sa 106 [b3,jj,b5,b7]):=Zn x91.2;unfold Sa at r9;simp only[cg]at r9;unfold Zz at r4 r9;simp -implicitDefEqProofs only[go_sem,r4,r6,w1,T4,r9];have R1:=ZR N1.ZZ.2 N1.pt.store.len;refine (nM T g1 o wb nb YN n.me Xw fl Yy ZE b3 jj b5 b7 l w5 w vs k1.Yn W1 R1.me (Za N1.ZZ.2) Xf (y3.Zf k1) (y4.Zf k1) (y5.Zf k1) (y7.Zf k1) (iv.Zf k1)).use ?_;rintro v' h' ⟨o',JD,k,W'⟩;simp -implicitDefEqProofs only[go_sem];exact⟨o',_,JD,(k1.mono fun t q=>.inr (.inr (.inl q))).trans (k.mono fun t q=>q.elim .inl fun q=>.inr (.inl q)),N1.Zf k (by rintro t (rfl|rfl)<;>simp[Tg.of]),W'⟩
theorem Zd5(h:Hp)(o:Ow)(wb i nb:Nat)(YN:Nat->Nat)(Xw:WA)(fl:List YH)(Yy:Nat->Int)(ZE:List Ob)(a:NA)(n:Nd)(acc:UP)(to:Int)(x:Vt)(b6 b4 b9:Nat)(u:al)(d:Vz o h)(N:Z6 o h wb i nb a n)(W:Z1 o h wb YN Xw fl Yy ZE)(Xf:(O fl)<=1000000000000)(x6:OP o h b6 acc)(x4:Yb o h b4 (Z [Zz nb].toArray 98))(x9:Yb o h b9 (Z [u].toArray 1))(hu:Zav o h wb nb u to x):
  Zd aw T 114 #[Zz b6,Zz b4,Zz b9] h fun v' h'=>∃o' a' JD,Kp (Zh6 i) o h o' h'/\Z6 o' h' wb i nb a' { n with Zq:=acc }/\Z1 o' h' wb YN JD (fl++[⟨3,n.me,to,Jq,x,[]⟩]) Yy ZE:=by
 obtain⟨wa,xa,ia⟩:=x6;obtain⟨pa,ca,rfl⟩:=ia.ZP;obtain⟨b3,jj,b5,l,w5,rfl,y3,y4,y5,rfl,rfl⟩:=hu;have T4:=Za N.ZZ.2;refine Zd.XS [_,_,_] Tryz.func114 ?_;unfold Zz;have r4:hc h ⟨b4,0,ag⟩=U (Zz nb):=Zn x4.2;have r6:rd h ⟨b6,0,ag⟩ 3=U [Q J acc.p.r,Q J acc.p.n,ae pa (O acc.l) ca]:=Zy xa.2 rfl;obtain⟨g1,w1,N1,k1⟩:=Yi.write (a:={ a with XW:=ae pa (O acc.l) ca }) (n:={ n with Zq:=acc }) { N.pt with XW:=ia } d N.ZZ ((XM N.ZZ.2 N.pt.store.len).Zq acc.p.r acc.p.n (ae pa (O acc.l) ca) rfl);have W1:=W.Zf k1 (by rintro t rfl;simp[Tg.of]);have x91:=x9.Zf k1;have r9:hc g1 ⟨b9,0,ag⟩=U (Sa 111 [b3,jj,b5]):=Zn x91.2;unfold Sa at r9;simp only[cg]at r9;unfold Zz at r4 r9;simp -implicitDefEqProofs only[go_sem,r4,r6,w1,T4,r9];have R1:=ZR N1.ZZ.2 N1.pt.store.len;refine (nN T g1 o wb nb YN n.me Xw fl Yy ZE b3 jj b5 l w5 k1.Yn W1 R1.me (Za N1.ZZ.2) Xf (y3.Zf k1) (y4.Zf k1) (y5.Zf k1)).use ?_;rintro v' h' ⟨o',JD,k,W'⟩;simp -implicitDefEqProofs only[go_sem];exact⟨o',_,JD,(k1.mono fun t q=>.inr (.inr (.inl q))).trans (k.mono fun t q=>q.elim .inl fun q=>.inr (.inl q)),N1.Zf k (by rintro t (rfl|rfl)<;>simp[Tg.of]),W'⟩
theorem WT.ins{k:Int}{w:al}{vs:List Vt}(iv:TY o h w vs):∀{pv:List (Int × al)} {pr:List (Int × List Vt)},WT o h pv pr->WT o h (Go.V.ins pv k w) (Go.V.ins pr k vs):=by
 intro pv pr s
 induction s with
 | nil=>exact .cons ⟨rfl,iv⟩ .nil
 | @cons a b l m Bi _ ih=>
  obtain⟨a1,a2⟩:=a;obtain⟨b1,b2⟩:=b;obtain⟨rfl,h2⟩:=Bi;show aT _ (if a1=k then (a1,w) :: l else (a1,a2) :: Go.V.ins l k w) (if a1=k then (a1,vs) :: m else (a1,b2) :: Go.V.ins m k vs);by_cases q:a1=k
  .rw[if_pos q,if_pos q];exact .cons ⟨rfl,iv⟩ aac
  .rw[if_neg q,if_neg q];exact .cons ⟨rfl,h2⟩ ih
theorem WT.length{pv:List (Int × al)}{pr:List (Int × List Vt)}(s:WT o h pv pr):(O pv)=(O pr):=by
 induction s with
 | nil=>rfl
 | cons _ _ ih=>simp[ih]
theorem WT.Yh{pv:List (Int × al)}{pr:List (Int × List Vt)}(s:WT o h pv pr)(k:Int):(Go.V.Yh pv k=ag/\Go.V.Yh pr k=ag)\/∃w vs,Go.V.Yh pv k=U w/\Go.V.Yh pr k=U vs/\TY o h w vs:=by
 induction s with
 | nil=>exact .inl ⟨rfl,rfl⟩
 | @cons a b l m Bi _ ih=>
  obtain⟨a1,a2⟩:=a;obtain⟨b1,b2⟩:=b;obtain⟨rfl,h2⟩:=Bi;unfold Go.V.Yh;by_cases q:a1=k
  .rw[if_pos q,if_pos q];exact .inr ⟨_,_,rfl,rfl,h2⟩
  .rw[if_neg q,if_neg q];exact ih
theorem XA.nO{i:Nat}{ra:RA}{r:XE}(s:XA o i h ra r)(d:Vz o h){k:Int}{w:al}{vs:List Vt}(iv:TY o h w vs):
  Kp (fun t=>t=.ZI i) o h o (h.setIfInBounds ra.pb (Jt (ins ra.pv k w)))/\XA o i (h.setIfInBounds ra.pb (Jt (ins ra.pv k w))) { ra with pv:=ins ra.pv k w } { r with ZI:=ins r.ZI k vs }:=by
 have kk:Kp (fun t=>t=.ZI i) o h o (h.setIfInBounds ra.pb (Jt (ins ra.pv k w))):=(Kp.refl d (fun t=>t=.ZI i)).set s.ZI.1 rfl _;exact⟨kk,s.ZZ.Zf kk Va,⟨s.ZI.1,ZV s.ZI.2⟩,WT.Zf (WT.ins iv s.OO) kk,s.ZY.Zf kk Va,s.Xb.Zf kk Va,s.RC.Zf kk (fun _ e=>by cases e),s.keys⟩
theorem Yi.sU{wb i nb:Nat}{a:NA}{n:Nd}(s:Yi o h wb i nb a n)(k:Kp (fun t=>t=.Ja i) o h o' h')(hp:n.Zs=ag):Yi o' h' wb i nb a n:=
 ⟨s.data.Zf k,s.XW.Zf k,s.Zh.Zf k (fun t ht=>by rcases ht with rfl|rfl|rfl|rfl|⟨z,rfl⟩<;>intro e<;>cases e),s.Zi.Zf k Va,s.ZA.Zf k Va,s.Zx.Zf k Va,s.Zk.Zf k Va,s.Zg.Zf k Va,by
  have:=s.Zs;rw[hp]at this ⊢;exact this,s.store⟩
theorem Hj{n:Nd}{a:NA}{ra ra':RA}(r:Option XE)(h:a.Zh=U ra)(hb:ra'.rb=ra.rb):Jh { n with Zh:=r } { a with Zh:=U ra' } = Jh n a:=by
 unfold Jh VO;simp only[h,MG,hb]
def ZvP(i:Nat)(t:Tg):Prop:=t=.ZS i\/t=.ZI i\/t=.Ja i
theorem Zd6(h:Hp)(o:Ow)(wb i nb:Nat)(a:NA)(n:Nd)(acc:UP)(vs:List Vt)(cur:Bool)(v:al)(d:Vz o h)(N:Z6 o h wb i nb a n)(hp:n.Zs=ag)(hv:ZmU o h i nb a.Zh v acc vs cur):
  ∃b6 b4 b7 b5,v=Sa 115 [b6,b4,b7,b5]/\Zd aw T 115 #[Zz b6,Zz b4,Zz b7,Zz b5] h fun v' h'=>∃o' a',Kp (ZvP i) o h o' h'/\Z6 o' h' wb i nb a' { n with Zq:=acc,Zh:=if cur=true then n.Zh.map (fun r=>{ r with ZI:=ins r.ZI n.me vs }) else n.Zh }:=by
 obtain⟨b6,b4,b7,b5,w,rb,rfl,⟨wa,xa,ia⟩,x4,x7,iv,x5,Zm3⟩:=hv;obtain⟨pa,ca,rfl⟩:=ia.ZP;obtain⟨pw,cw,rfl⟩:=iv.ZP;refine⟨b6,b4,b7,b5,rfl,?_⟩;have T4:=Za N.ZZ.2;refine Zd.XS [_,_,_,_] Tryz.func115 ?_;unfold Zz;have r4:hc h ⟨b4,0,ag⟩=U (Zz nb):=Zn x4.2;have r6:rd h ⟨b6,0,ag⟩ 3=U [Q J acc.p.r,Q J acc.p.n,ae pa (O acc.l) ca]:=Zy xa.2 rfl;obtain⟨g1,w1,N1,k1⟩:=Yi.write (a:={ a with XW:=ae pa (O acc.l) ca }) (n:={ n with Zq:=acc }) { N.pt with XW:=ia } d N.ZZ ((XM N.ZZ.2 N.pt.store.len).Zq acc.p.r acc.p.n (ae pa (O acc.l) ca) rfl);unfold Zz at r4;simp -implicitDefEqProofs only[go_sem,r4,r6,w1,T4];have y4:=x4.Zf k1;have y5:=x5.Zf k1;have y7:=x7.Zf k1;have q4:hc g1 ⟨b4,0,ag⟩=U (Zz nb):=Zn y4.2;have q5:hc g1 ⟨b5,0,ag⟩=U (Zz rb):=Zn y5.2;have q7:hc g1 ⟨b7,0,ag⟩=U (ae pw (O vs) cw):=Zn y7.2;unfold Zz at q4 q5;have l4:=Za y4.2;have l5:=Za y5.2;have l7:=Za y7.2;have R1:=ZR N1.ZZ.2 N1.pt.store.len;have lnb:=Za N1.ZZ.2;have iv1:=iv.Zf k1;refine VS.z (g1.size) [9] (.q 0 (.p 1 (.p 2 (.q 3 (.q 4 (.p 5 (.p 6 (.q 7 (.q 8 (.w 9 .nil)))))))))) mixed vM ?_
 cases cur with
 | true=>
  obtain⟨ra,Ih,rfl⟩:=Zm3;have hR:=N1.pt.Zh;have sV:({ a with XW:=ae pa (O acc.l) ca }:NA).Zh=U ra:=Ih;rw[sV]at hR
  cases hr:n.Zh with
  | none=>rw[show ({ n with Zq:=acc }:Nd).Zh=ag from hr]at hR;exact hR.elim
  | some r=>
   rw[show ({ n with Zq:=acc }:Nd).Zh=U r from hr]at hR;have hR:XA o i g1 ra r:=hR;have rr:hc g1 ⟨ra.rb,2,ag⟩=U (.map (U ra.pb)):=Zn hR.ZZ.2;have gk:=Za hR.ZZ.2;simp -implicitDefEqProofs only[go_sem,q4,q5,q7,l4,l5,l7,lnb,R1.me,rr,gk];rw[Qk Hc hR.ZI.2];simp -implicitDefEqProofs only[go_sem];obtain⟨k2,R2⟩:=hR.nO k1.Yn (k:=n.me) iv1;have k2':Kp (JY i) o g1 o _:=k2.mono fun t q=>.inr (.inl q);refine⟨o,{ ({ a with XW:=ae pa (O acc.l) ca }:NA) with Zh:=U { ra with pv:=ins ra.pv n.me (ae pw (O vs) cw) } },(k1.mono fun t q=>.inl q).trans (k2.mono fun t q=>.inr (.inl q)),?_,?_⟩
   .have:=N1.ZZ.Zf k2 Va;rw[<-Hj (U { r with ZI:=ins r.ZI n.me vs }) sV (ra':={ ra with pv:=ins ra.pv n.me (ae pw (O vs) cw) }) rfl]at this;exact this
   .exact Yi.Wa N1.pt k2' sV rfl R2
 | false=>
  obtain⟨cs,pb,pv,y1,y2,y3⟩:=Zm3;have z1:=y1.Zf k1 Va;have z3:=y3.Zf k1 Va;have rr:hc g1 ⟨rb,2,ag⟩=U (.map (U pb)):=by rw[Re z1.2];exact y2
  have gk:=Za z1.2;simp -implicitDefEqProofs only[go_sem,q4,q5,q7,l4,l5,l7,lnb,R1.me,rr,gk];rw[Qk Hc z3.2];simp -implicitDefEqProofs only[go_sem];have k2:Kp (fun t=>t=.Ja i) o g1 o (g1.setIfInBounds pb (Jt (ins pv n.me (ae pw (O vs) cw)))):=(Kp.refl k1.Yn (fun t=>t=.Ja i)).set z3.1 rfl _;exact⟨o,_,(k1.mono fun t q=>.inl q).trans (k2.mono fun t q=>.inr (.inr q)),N1.ZZ.Zf k2 Va,N1.pt.sU k2 hp⟩
end Go.Proofs.YthlfaofofaphfaaGreatDoor

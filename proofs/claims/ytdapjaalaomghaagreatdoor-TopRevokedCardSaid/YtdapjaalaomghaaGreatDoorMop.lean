/- Part Mop. -/
import Derived.Test.YtdapjaalaomghaaGreatDoorOpn
import Derived.Test.YtdapjaalaomghaaGreatDoorMix
import Derived.Test.YtdapjaalaomghaaGreatDoorChw
import Derived.Test.YtdapjaalaomghaaGreatDoorPik
import Derived.Test.YtdapjaalaomghaaGreatDoorW29
open Go.Value renaming int→Q,slice→ab,bool→aq,pointer→aw,agg→a3
open Go.IntKind renaming i64→J
open Go.Obj renaming cells→Z
open Go.Proofs.Tryz renaming prog→ao,underlying94→b8,underlying55→cc
open List renaming length→O,length_append→am,length_drop→aU,append_assoc→a0,take_append_drop→a4,length_take→a5,getElem?_eq_getElem→a8,idxOf_lt_length_of_mem→ba,all_eq_true→bc,append_nil→be,getElem_of_mem→bg,getElem?_append_right→bh,getElem_mem→bk,range→bn,not_of_lt_findIdx→bo,nil_append→bt,set_append_right→bC,mem_of_mem_drop→bG,drop_drop→bQ,filter_eq_self→bR,getElem_idxOf→b0,length_set→cf,map→cg,all_cons→ch,take→cj
open Nat renaming le_refl→a6,mul_le_mul_right→a7,min_eq_left→bd,sub_mul→bf,succ_mul→br,lt_of_lt_of_le→bS,add_mul→cd
open Option renaming map_some→bA,some→U,none→ae
open Array renaming size_push→a9
open Bool renaming eq_iff_iff→bw
open And renaming intro→ck
open Go renaming Value→al
namespace Go.Proofs.YtdapjaalaomghaaGreatDoor
open Go Go.V
set_option linter.all false
variable(T:World){cs:List al}{h h':Hp}{v:al}
deriving instance DecidableEq for Yn
deriving instance DecidableEq for Vt
deriving instance DecidableEq for Qo
abbrev Cm:=Qo
variable{l:List Cm}
def Nv:Cm:=⟨0,0,0,0,0⟩
def Qo.C(x:Qo):List al:=Uy x.k x.c x.s x.n x.v
def Qo.err(x:Qo):Int:=Y0 x.k x.c x.s x.n x.v
def Vt.cm(v:Vt):Cm:=⟨v.k,v.c,v.s,v.nm,v.v⟩
def QC(s:Int)(b:Yn)(x:Cm):Vt:=⟨s,b,x.k,x.c,x.s,x.n,x.v⟩
def Jg:Yn:=⟨0,0⟩
structure YF where
 ZR:Int
 Jp:Int
 to:Int
 b:Yn
 v:Vt
 vs:List Vt
structure Xw where
 b:Yn
 ZF:List (Int × List Vt)
 Xg:Bool
 ZT:List (Int × Cm)
 YZ:List (Int × List (Int × Unit))
inductive Kf where
 | Vy (a:UH) (to:Int) (b:Yn) (vs:List Vt)
 | TC (a:UH) (to:Int) (v:Vt)
 | Zm (a:UH) (vs:List Vt) (cur:Bool)
structure Nd where
 me:Nat
 up:Bool
 data:List Nat
 YS:Int
 Zm:UH
 Z8:Yn
 Zg:Option Xw
 Zh:List (Int × Cm)
 Zw:List Cm
 store:List al
 Zr:List Cm
 Zi:List Cm
 Zf:List YF
 Zp:Option Kf
 Yt:Int
structure PS where
 ZV:Int
 c:Int
 s:Int
 code:Int
 val:Int
structure Wd where
 Zb:Nat->Nd
 Zo:List YF
 Yw:Nat->Int
 ZA:List PS
structure Out where
 n:Nd
 ls:List YF
 ts:List PS
def YA(n:Nd)(l:YF):Out:=
 if YG n.Zm.p n.Zm.l l.b≠0 then ⟨n,[⟨7,n.me,l.Jp,n.Zm.p,SM,[]⟩],[]⟩
 else if n.Zm.p=l.b then ⟨n,[⟨1,n.me,l.Jp,l.b,SM,n.Zm.l⟩],[]⟩
 else if Jj n.data n.YS l.b≠0 then ⟨n,[],[]⟩
 else ⟨{ n with data:=n.data++YR (JQ l.b),Zp:=U (.Vy ⟨l.b,n.Zm.l⟩ l.Jp l.b n.Zm.l) },[],[]⟩
def asked(n:Nd)(l:YF):Out:=
 if Xi n.Zm.p n.Zm.l l.v≠0 then ⟨n,[⟨7,n.me,l.Jp,n.Zm.p,SM,[]⟩],[]⟩
 else if l.v∈n.Zm.l then ⟨n,[⟨3,n.me,l.Jp,Jg,l.v,[]⟩],[]⟩
 else if QW n.data n.YS l.v≠0 then ⟨n,[],[]⟩
 else ⟨{ n with data:=n.data++YR (Uq l.v),Zp:=U (.TC ⟨l.v.b,JA n.Zm.l l.v⟩ l.Jp l.v) },[],[]⟩
def Wh(st:List al)(x:Cm):List al:=if UO st x=0 then (JK st x).cells else Yy
def Wp(st:List al)(x:Cm):Int:=if UO st x=0 then (JK st x).code else 0
def Ru(st:List al)(x:Cm):Int:=if UO st x=0 then (JK st x).val else 0
def JZ(n:Nd)(x:Cm):Nd:={ n with Zw:=n.Zw++[x],store:=Wh n.store x,Zr:=n.Zr.filter (fun y=>decide (y≠x)),Zi:=n.Zi.erase x }
def WT(n:Nd)(x:Cm):List PS:=if x∈n.Zi then [⟨n.me,x.c,x.s,Wp n.store x,Ru n.store x⟩] else []
def Ye:Nat->Nd->Nd × List PS
 | 0,n=>(n,[])
 | k+1,n=>match Yg n.Zh n.Zw.length with
  | none=>(n,[])
  | some x=>((Ye k (JZ n x)).1,WT n x++(Ye k (JZ n x)).2)
def Jd(n:Nd)(s:Int)(x:Cm):Nd:={ n with Zh:=ins n.Zh s x }
def X8(n:Nd)(s:Int)(x:Cm):Out:=
 ⟨(Ye ((Jd n s x).Zh.length+1) (Jd n s x)).1,[],(Ye ((Jd n s x).Zh.length+1) (Jd n s x)).2⟩
def Zdv(n:Nd)(r:Xw)(l:YF):Nd:={ n with Zg:=U { r with ZF:=ins r.ZF l.Jp l.vs } }
def QY(r:Xw)(l:YF):List (Int × Unit):=ins ((Yg r.YZ l.v.Zt).getD []) l.Jp ()
def TD(n:Nd)(r:Xw)(l:YF):Nd:={ n with Zg:=U { r with YZ:=ins r.YZ l.v.Zt (QY r l) } }
def Ym(n:Nd)(l:YF):Out:=
 match n.Zg with
 | none=>⟨n,[],[]⟩
 | some r=>
  if l.ZR=1 then (if l.b=r.b then ⟨Zdv n r l,[],[]⟩ else ⟨n,[],[]⟩)
  else if l.v.b≠r.b then ⟨n,[],[]⟩
  else if 5<2*(QY r l).length then X8 (TD n r l) l.v.Zt l.v.cm
  else ⟨TD n r l,[],[]⟩
def add(n:Nd)(x:Cm):Nd:=if x∈n.Zr\/x∈n.Zw then n else { n with Zr:=n.Zr++[x] }
def Xk(n:Nd)(l:YF):Nd:=if ZE n.Z8 l.b then { n with Z8:=l.b } else n
def Qd(n:Nd)(l:YF):Out:=
 match Yg n.Zh l.v.Zt with
 | some x=>⟨Xk n l,[⟨6,n.me,l.Jp,Jg,QC l.v.Zt Jg x,[]⟩],[]⟩
 | none=>⟨Xk n l,[],[]⟩
def Zu(n:Nd)(l:YF):Out:=
 if l.ZR=0 then YA n l else if l.ZR=1\/l.ZR=3 then Ym n l else if l.ZR=2 then asked n l
 else if l.ZR=4 then ⟨add n l.v.cm,[],[]⟩ else if l.ZR=5 then Qd n l else if l.ZR=6 then X8 n l.v.Zt l.v.cm else ⟨Xk n l,[],[]⟩
def Yq(r:Xw):List (List Vt):=(bn 5).map fun (m:Nat)=>(Yg r.ZF (m:Int)).getD []
def Pd(l:List Vt):Int:=l.foldl (fun t v=>if t<v.Zt then v.Zt else t) (-1)
def OH(LL:List (List Vt))(s:Int):Cm:=if Sr s LL.flatten=0 then (WR s LL.flatten).cm else Nv
def J2(n:Nd)(LL:List (List Vt))(pr:List (Int × Cm))(s:Nat):List (Int × Cm):=if Yg n.Zh (s:Int)=ae then ins pr (s:Int) (OH LL s) else pr
def Wq(n:Nd)(r:Xw):Xw:=
 { r with ZT:=(List.range' n.Zw.length ((Pd (Yq r).flatten+1).toNat-n.Zw.length)).foldl (J2 n (Yq r)) r.ZT,Xg:=true }
def Qe(n:Nd)(r:Xw)(x:Cm):Nat->Nat->Option Nat
 | 0,_=>ae
 | k+1,s=>if Yg r.ZT (s:Int)=U x\/Yg n.Zh (s:Int)=U x then ae
  else if Yg r.ZT (s:Int)=ae/\Yg n.Zh (s:Int)=ae then U s else Qe n r x k (s+1)
def free(n:Nd)(r:Xw)(x:Cm):Option Nat:=Qe n r x (40-n.Zw.length) n.Zw.length
def J4(n:Nd)(r:Xw)(x:Cm):Xw:=match free n r x with|some s=>{ r with ZT:=ins r.ZT (s:Int) x }|none=>r
def Jb(n:Nd)(r:Xw)(l:List Cm):Xw:=l.foldl (J4 n) r
def SP(n:Nd)(r:Xw):List YF:=(bn 5).flatMap fun (m:Nat)=>if Yg r.ZF (m:Int)=ae then [⟨0,n.me,m,r.b,SM,[]⟩] else []
def Pe(n:Nd)(r:Xw)(s:Nat)(x:Cm)(m:Nat):List YF:=if Yg ((Yg r.YZ (s:Int)).getD []) (m:Int)=ae then [⟨2,n.me,m,Jg,QC s r.b x,[]⟩] else []
def WU(n:Nd)(r:Xw)(s:Nat):List YF:=match Yg r.ZT (s:Int) with
 | some x=>if Yg n.Zh (s:Int)=ae then (bn 5).flatMap (Pe n r s x) else []
 | none=>[]
def Wr(n:Nd)(r:Xw):List YF:=(bn 40).flatMap (WU n r)
def XJ(n:Nd)(r:Xw):Xw:=Jb n (if r.Xg=true then r else Wq n r) n.Zr
def Js(n:Nd)(r:Xw):Out:=
 if ZE n.Zm.p r.b then
  (if Jj n.data n.YS r.b≠0 then ⟨n,[],[]⟩ else
    ⟨{ n with data:=n.data++YR (JQ r.b),Zp:=U (.Zm (if YG n.Zm.p n.Zm.l r.b=0 then ⟨r.b,n.Zm.l⟩ else JJ) (if YG n.Zm.p n.Zm.l r.b=0 then n.Zm.l else []) true) },[],[]⟩)
 else if ¬5<2*r.ZF.length then ⟨n,SP n r,[]⟩
 else ⟨{ n with Zg:=U (XJ n r) },Wr n (XJ n r),[]⟩
def Zn(n:Nd):Nd:=match n.Zg with|some r=>if ZE r.b n.Zm.p then { n with Zg:=ae } else n|none=>n
def U3(n:Nd):List YF:=n.Zr.map fun x=>⟨4,n.me,n.Zm.p.n,Jg,QC 0 Jg x,[]⟩
def Z2(n:Nd):Out:=match n.Zg with
 | some r=>Js n r
 | none=>if 0<n.Zm.p.r/\n.Zm.p.n≠n.me then ⟨n,U3 n,[]⟩ else ⟨n,[],[]⟩
def Ws(n:Nd):Yn:=if ZE n.Zm.p n.Z8 then n.Z8 else n.Zm.p
def JD(n:Nd):Nd:={ n with Yt:=(n.Yt+1)%5 }
def QZ(n:Nd):List YF:=if n.Yt≠n.me/\n.Zw.length<40 then [⟨5,n.me,n.Yt,Ws n,QC n.Zw.length Jg Nv,[]⟩] else []
def Yi(n:Nd):Out:=
 if (Z2 (Zn n)).n.Zp.isSome=true then Z2 (Zn n)
 else ⟨JD (Z2 (Zn n)).n,(Z2 (Zn n)).ls++QZ (JD (Z2 (Zn n)).n),[]⟩
def ZM(n:Nd):Nd:={ n with data:=if YX n.data n.YS then n.data else [],YS:=if YX n.data n.YS then ((O n.data):Int) else 0,Zp:=ae }
def YL(n:Nd):Kf->Out
 | .Vy a to b vs=>⟨{ n with Zm:=a },[⟨1,n.me,to,b,SM,vs⟩],[]⟩
 | .TC a to v=>⟨{ n with Zm:=a },[⟨3,n.me,to,Jg,v,[]⟩],[]⟩
 | .Zm a vs cur=>⟨{ n with Zm:=a,Zg:=if cur=true then n.Zg.map (fun r=>{ r with ZF:=ins r.ZF n.me vs }) else n.Zg },[],[]⟩
def Zy:Nd->List YF->Out
 | n,[]=>⟨{ n with Zf:=[] },[],[]⟩
 | n,l :: k=>if n.Zp.isSome=true then ⟨{ n with Zf:=l :: k },[],[]⟩
  else ⟨(Zy (Zu { n with Zf:=k } l).n k).n,(Zu { n with Zf:=k } l).ls++(Zy (Zu { n with Zf:=k } l).n k).ls,(Zu { n with Zf:=k } l).ts++(Zy (Zu { n with Zf:=k } l).n k).ts⟩
def step(n:Nd):Out:=
 if n.up=true then (match n.Zp with
  | some p=>YL (ZM n) p
  | none=>if (Zy n n.Zf).n.Zp.isSome=true then Zy n n.Zf
   else ⟨(Yi (Zy n n.Zf).n).n,(Zy n n.Zf).ls++(Yi (Zy n n.Zf).n).ls,(Zy n n.Zf).ts++(Yi (Zy n n.Zf).n).ts⟩)
 else ⟨n,[],[]⟩
def Yl(i:Nat)(up:Bool)(data:List Nat)(YS:Int)(Zm:UH):Nd:=⟨i,up,data,YS,Zm,Jg,ae,[],[],Yy,[],[],[],ae,0⟩
def Je(n:Nd):Yn:=⟨match n.Zg with
 | some r=>max (max n.Zm.p.r n.Z8.r+1) (r.b.r+1)
 | none=>max n.Zm.p.r n.Z8.r+1,n.me⟩
def XV:Option Kf->Option Kf
 | some (.Zm a vs _)=>U (.Zm a vs false)
 | p=>p
def lead(n:Nd):Nd:=if n.up=false\/65536<(Je n).r then n else { n with Zg:=U ⟨Je n,[],false,[],[]⟩,Zp:=XV n.Zp }
def Xl(rc:List Nat)(now:Int):Cm:=if YK rc now=0 then ⟨Xz ((X7 rc).drop 22) 0,Xz ((X7 rc).drop 22) 1,Xz ((X7 rc).drop 22) 2,Xz ((X7 rc).drop 22) 3,Xz ((X7 rc).drop 22) 4⟩ else Nv
def Fv(l:List Nat):Nat->UH->Nat->UH × Nat
 | 0,a,k=>(a,k)
 | f+1,a,k=>match Y2 l a k with
  | none=>(a,k)
  | some x=>Fv l f x.1 x.2
def TE(l:List Nat):UH × Nat:=Fv l ((O l)+1) JJ 0
def UI(l:List Nat)(n k:Int):Int:=n+(if ((O l):Int)-n<k then ((O l):Int)-n else k)
def XF(i:Nat)(n:Nd)(Ze:Int):Nd:=
 if n.up=true then (if YX n.data n.YS/\0<=Ze then Yl i false (n.data.take (UI n.data n.YS Ze).toNat) (UI n.data n.YS Ze) JJ else Yl i false [] 0 JJ) else n
def Fw(l:List Nat)(n:Int):List Nat:=if YX l n then l.take (TE l).2 else []
def jw(l:List Nat)(n:Int):Int:=if YX l n then (if ((TE l).2:Int)<n then ((TE l).2:Int) else n) else 0
def started(i:Nat)(n:Nd):Nd:=
 if n.up=true then n else Yl i true (Fw n.data n.YS) (jw n.data n.YS) (if YX (Fw n.data n.YS) (jw n.data n.YS) then (TE (Fw n.data n.YS)).1 else JJ)
structure Ac where
 ZR:Int
 ZV:Nat
 at':Nat
 Ze:Int
 data:List Nat
def Wd.set(w:Wd)(i:Nat)(n:Nd):Wd:={ w with Zb:=fun j=>if j=i then n else w.Zb j }
def Wd.out(w:Wd)(i:Nat)(o:Out):Wd:={ Zb:=fun j=>if j=i then o.n else w.Zb j,Zo:=w.Zo++o.ls,Yw:=w.Yw,ZA:=w.ZA++o.ts }
def Q0(w:Wd)(l:YF):Wd:=if (w.Zb l.to.toNat).up=true then w.set l.to.toNat { w.Zb l.to.toNat with Zf:=(w.Zb l.to.toNat).Zf++[l] } else w
def pick(w:Wd)(at':Nat)(comes stays:Bool):Wd:=
 match w.Zo[at'%w.Zo.length]? with
 | none=>w
 | some l=>if comes=true then Q0 (if stays=true then w else { w with Zo:=w.Zo.eraseIdx (at'%w.Zo.length) }) l else (if stays=true then w else { w with Zo:=w.Zo.eraseIdx (at'%w.Zo.length) })
def TF(n:Nd)(x:Cm):Nd:=if x∈n.Zi then n else { n with Zi:=n.Zi++[x] }
def Jk(w:Wd)(i:Nat)(data:List Nat):Wd:=
 if (w.Zb i).up=true then
  (if YK data (w.Zb i).Zw.length≠0 then { w with Yw:=fun j=>if j=i then w.Yw i+1 else w.Yw j }
  else if Xl data (w.Zb i).Zw.length∈(w.Zb i).Zw then
   { w with ZA:=w.ZA++[⟨(w.Zb i).me,(Xl data (w.Zb i).Zw.length).c,(Xl data (w.Zb i).Zw.length).s,Wp (w.Zb i).store (Xl data (w.Zb i).Zw.length),Ru (w.Zb i).store (Xl data (w.Zb i).Zw.length)⟩] }
  else w.set i (TF (add (w.Zb i) (Xl data (w.Zb i).Zw.length)) (Xl data (w.Zb i).Zw.length)))
 else w
def act(w:Wd)(a:Ac):Wd:=
 if a.ZR=1 then Jk w a.ZV a.data
 else if a.ZR=2 then w.set a.ZV (lead (w.Zb a.ZV))
 else if a.ZR=3 then w.out a.ZV (step (w.Zb a.ZV))
 else if a.ZR=4\/a.ZR=5\/a.ZR=6 then pick w a.at' (decide (a.ZR≠5)) (decide (a.ZR=6))
 else if a.ZR=7 then w.Zo.foldl Q0 { w with Zo:=[] }
 else if a.ZR=8 then w.set a.ZV (XF a.ZV (w.Zb a.ZV) a.Ze)
 else w.set a.ZV (started a.ZV (w.Zb a.ZV))
def Ur:Wd:=⟨fun i=>Yl i true [] 0 JJ,[],fun _=>0,[]⟩
def Mt(l:List Ac):Wd:=l.foldl act Ur
set_option maxRecDepth 100000
@[go_sem] theorem Rv:lQ ao 106=U 24:=uj
@[go_sem] theorem IP:lQ ao 152=U 102:=uj
@[go_sem] theorem Fx:lQ ao 153=U 200:=uj
@[go_sem] theorem DU:lQ ao 200=U 201:=uj
@[go_sem] theorem zv:lQ ao 175=U 174:=uj
@[go_sem] theorem LJ:tzv ao 24=U (a3 Nv.C.toArray):=uj
@[go_sem] theorem zw:tzv ao 102=U (ab ae 0 0):=uj
@[go_sem] theorem DW:tzv ao 200=U (.map ae):=uj
@[go_sem] theorem Zfv:tzv ao 201=U (a3 #[]):=uj
@[go_sem] theorem Zmy:tzv ao 174=U .nilFunc:=uj
@[go_sem] theorem ZG8:tkp ao 105=true:=uj
@[go_sem] theorem ZG9:tkm ao 200=true:=uj
@[go_sem] theorem ZHa:tkf ao 1=true:=uj
inductive Tg where
 | world
 | Zb
 | Zo
 | ZA
 | ZV (i:Nat)
 | Zh (i:Nat)
 | Zw (i:Nat)
 | Zr (i:Nat)
 | Zi (i:Nat)
 | Zf (i:Nat)
 | Zg (i:Nat)
 | ZF (i:Nat)
 | ZT (i:Nat)
 | YZ (i:Nat)
 | Pf (i:Nat) (s:Int)
 | XV (i:Nat)
variable{S:Tg->Prop}
def Tg.of:Tg->Option Nat
 | .world=>ae
 | .Zb=>ae
 | .Zo=>ae
 | .ZA=>ae
 | .ZV i=>U i
 | .Zh i=>U i
 | .Zw i=>U i
 | .Zr i=>U i
 | .Zi i=>U i
 | .Zf i=>U i
 | .Zg i=>U i
 | .ZF i=>U i
 | .ZT i=>U i
 | .YZ i=>U i
 | .Pf i _=>U i
 | .XV i=>U i
abbrev Ow:=Nat->Option Tg
variable{o o':Ow}
structure Im(o:Ow)(n:Nat)(h:Hp)(v:al)(m:Nat)(cs:List al):Prop where
 sl:Sl n h v m cs
 fits:∃p c,v=ab p m c/\m<=c
 free:∀b,Yf v=U b->b<h.size/\o b=ae
theorem Im.Ze{n m:Nat}(s:Im o n h v m cs)(k:Kp S o h o' h'):Im o' n h' v m cs:=by
 obtain⟨⟨p,c,rfl,hl,hcc⟩,⟨p',c',he,hm⟩,hf⟩:=s;simp only[Value.slice.injEq,true_and]at he;obtain⟨rfl,rfl⟩:=he;have hf':∀b,Yf (ab p m c)=U b->b<h.size/\o b=ae/\h'[b]? = h[b]? /\ o' b=ae:=fun b hb=>by
  obtain⟨h1,h2⟩:=hf b hb;obtain⟨h3,h4⟩:=k.Ze b h1 fun t ht=>by rw[h2]at ht;cases ht
  exact⟨h1,h2,h3,by rw[h4,h2]⟩
 refine⟨⟨p,c,rfl,hl,fun Y4=>?_⟩,⟨p,c,rfl,hm⟩,fun b hb=>⟨bS (hf' b hb).1 k.size,(hf' b hb).2.2.2⟩⟩;obtain⟨b,off,rfl,XI⟩:=hcc Y4;have lJ:c≠0:=by
  intro e;have:m=0:=nT;subst this;exact Y4 (List.eq_nil_of_length_eq_zero (by simpa using hl))
 have hb:Yf (ab (U ⟨b,off,ae⟩) m c)=U b:=by simp[Yf,lJ]
 refine⟨b,off,rfl,fun i hi=>?_⟩;have:=XI i hi;unfold hc at this ⊢;rw[(hf' b hb).2.2.1];exact this
theorem Im.WV{B n m:Nat}{E:TypeId}(s:UK B E n h v m cs)(hd:∀b,B<=b->o b=ae):Im o n h v m cs:=by
 refine⟨s.sl,?_,fun b hb=>?_⟩
 .rcases s with⟨⟨p,rfl⟩,rfl,_⟩|⟨b,cap,sp,_,rfl,_,_,_,hm⟩
  .exact⟨p,0,rfl,a6 _⟩
  .exact⟨_,cap,rfl,hm⟩
 .exact⟨s.lt b hb,hd b (s.ZW b hb)⟩
theorem Im.nil(o:Ow)(n:Nat)(h:Hp)(p:Option Addr):Im o n h (ab p 0 0) 0 []:=
 ⟨⟨p,0,rfl,uK,fun Y4=>absurd rfl Y4⟩,⟨p,0,rfl,a6 _⟩,fun b hb=>by cases p<;>simp[Yf]at hb⟩
def TO(o:Ow)(h:Hp)(v:al)(l:List Vt):Prop:=Im o 8 h v (O l) (ZU Zv l)
def PT(o:Ow)(h:Hp)(v:al)(l:List Nat):Prop:=Im o 1 h v (O l) (l.map bv)/\∀x∈l,x<256
theorem TO.ts{l:List Vt}(s:TO o h v l):Ts Zv 8 h v l:=⟨Im.sl s⟩
theorem PT.bs{l:List Nat}(s:PT o h v l):Bs h v l:=⟨s.1.sl,s.2⟩
theorem TO.Ze{l:List Vt}(s:TO o h v l)(k:Kp S o h o' h'):TO o' h' v l:=Im.Ze s k
theorem PT.Ze{l:List Nat}(s:PT o h v l)(k:Kp S o h o' h'):PT o' h' v l:=⟨s.1.Ze k,s.2⟩
def XN(l:YF)(w:al):List al:=[Q J l.ZR,Q J l.Jp,Q J l.to,Q J l.b.r,Q J l.b.n,Q J l.v.Zt,Q J l.v.b.r,Q J l.v.b.n,Q J l.v.k,Q J l.v.c,Q J l.v.s,Q J l.v.nm,Q J l.v.v,w]
def IQ(x:YF × al):List al:=XN x.1 x.2
def Mu(t:PS):List al:=[Q J t.ZV,Q J t.c,Q J t.s,Q J t.code,Q J t.val]
def Zx(b:Nat):al:=aw (U ⟨b,0,ae⟩)
def Sv(x:Cm):al:=a3 x.C.toArray
def Wu(o:Ow)(t:Tg)(h:Hp)(v:al)(l:List Cm):Prop:=XC o t 24 5 h v (O l) (ZU Qo.C l)
def WH(o:Ow)(t:Tg)(h:Hp)(v:al)(l:List YF):Prop:=
 ∃xs:List (YF × al),xs.map (·.1)=l/\XC o t 134 14 h v (O xs) (ZU IQ xs)/\∀x∈xs,TO o h x.2 x.1.vs
theorem Wu.Ze{t:Tg}(s:Wu o t h v l)(k:Kp S o h o' h')(hn:¬S t):Wu o' t h' v l:=XC.Ze s k hn
theorem WH.Ze{t:Tg}{l:List YF}(s:WH o t h v l)(k:Kp S o h o' h')(hn:¬S t):WH o' t h' v l:=by
 obtain⟨xs,h1,h2,h3⟩:=s;exact⟨xs,h1,h2.Ze k hn,fun x hx=>(h3 x hx).Ze k⟩
def U6(o:Ow)(t:Tg)(h:Hp)(b:Nat)(l:List (Int × al)):Prop:=o b=U t/\h[b]? = U (Jm l)
theorem U6.Ze{t:Tg}{b:Nat}{l:List (Int × al)}(s:U6 o t h b l)(k:Kp S o h o' h')(hn:¬S t):U6 o' t h' b l:=by
 have NH:∀u,o b=U u->¬S u:=fun u hu=>by rw[s.1]at hu;cases hu;exact hn
 exact⟨by rw[k.Zm s.2 NH,s.1],k.get s.2 NH⟩
def WJ(o:Ow)(t:Tg)(h:Hp)(b:Nat)(x:Obj):Prop:=o b=U t/\h[b]? = U x
theorem WJ.Ze{t:Tg}{b:Nat}{x:Obj}(s:WJ o t h b x)(k:Kp S o h o' h')(hn:¬S t):WJ o' t h' b x:=by
 have NH:∀u,o b=U u->¬S u:=fun u hu=>by rw[s.1]at hu;cases hu;exact hn
 exact⟨by rw[k.Zm s.2 NH,s.1],k.get s.2 NH⟩
def Ya(o:Ow)(h:Hp)(b:Nat)(x:Obj):Prop:=o b=ae/\h[b]? = U x
theorem Ya.Ze{b:Nat}{x:Obj}(s:Ya o h b x)(k:Kp S o h o' h'):Ya o' h' b x:=(k.free s.2 s.1).symm
def WX(o:Ow)(h:Hp)(pv:List (Int × al))(pr:List (Int × List Vt)):Prop:=az (fun x y=>x.1=y.1/\TO o h x.2 y.2) pv pr
theorem WX.Ze{pv:List (Int × al)}{pr:List (Int × List Vt)}(s:WX o h pv pr)(k:Kp S o h o' h'):WX o' h' pv pr:=by
 induction s with
 | nil=>exact .nil
 | cons a _ ih=>exact .cons ⟨a.1,a.2.Ze k⟩ ih
def Ht(l:List (Int × Unit)):List (Int × al):=VC (fun _=>a3 #[]) l
def WK(o:Ow)(i:Nat)(h:Hp)(sv:List (Int × Nat))(vt:List (Int × List (Int × Unit))):Prop:=az (fun x y=>x.1=y.1/\U6 o (.Pf i y.1) h x.2 (Ht y.2)) sv vt
theorem WK.Ze{i:Nat}{sv:List (Int × Nat)}{vt:List (Int × List (Int × Unit))}(s:WK o i h sv vt)(k:Kp S o h o' h')(hn:∀s,¬S (.Pf i s)):WK o' i h' sv vt:=by
 induction s with
 | nil=>exact .nil
 | cons a _ ih=>exact .cons ⟨a.1,a.2.Ze k (hn _)⟩ ih
def mpV(b:Nat):al:=.map (U b)
structure RA where
 rb:Nat
 pb:Nat
 qb:Nat
 vb:Nat
 pv:List (Int × al)
 sv:List (Int × Nat)
def jx(r:Xw)(a:RA):List al:=[Q J r.b.r,Q J r.b.n,.map (U a.pb),aq r.Xg,.map (U a.qb),.map (U a.vb)]
structure Xx(o:Ow)(i:Nat)(h:Hp)(a:RA)(r:Xw):Prop where
 ZW:WJ o (.Zg i) h a.rb (Z (jx r a).toArray 155)
 ZF:U6 o (.ZF i) h a.pb a.pv
 OI:WX o h a.pv r.ZF
 ZT:U6 o (.ZT i) h a.qb (VC Sv r.ZT)
 YZ:U6 o (.YZ i) h a.vb (VC mpV a.sv)
 Rw:WK o i h a.sv r.YZ
 keys:(a.sv.map (·.1)).Nodup
def JV(i:Nat)(t:Tg):Prop:=t=.Zg i\/t=.ZF i\/t=.ZT i\/t=.YZ i\/∃s,t=.Pf i s
theorem Xx.Ze{i:Nat}{a:RA}{r:Xw}(s:Xx o i h a r)(k:Kp S o h o' h')(hn:∀t,JV i t->¬S t):Xx o' i h' a r:=
 ⟨s.ZW.Ze k (hn _ (.inl rfl)),s.ZF.Ze k (hn _ (.inr (.inl rfl))),s.OI.Ze k,s.ZT.Ze k (hn _ (.inr (.inr (.inl rfl)))),s.YZ.Ze k (hn _ (.inr (.inr (.inr (.inl rfl))))),s.Rw.Ze k (fun s=>hn _ (.inr (.inr (.inr (.inr ⟨s,rfl⟩))))),s.keys⟩
def Mv:Option RA->al
 | some a=>Zx a.rb
 | none=>aw ae
def Zdw(o:Ow)(i:Nat)(h:Hp):Option RA->Option Xw->Prop
 | some a,U r=>Xx o i h a r
 | none,ae=>True
 | _,_=>False
theorem Zdw.Ze{i:Nat}{a:Option RA}{r:Option Xw}(s:Zdw o i h a r)(k:Kp S o h o' h')(hn:∀t,JV i t->¬S t):Zdw o' i h' a r:=by
 cases a<;>cases r<;>first|exact s|exact Xx.Ze s k hn
def T6(f:FuncId)(l:List Nat):al:=.func (.func f) #[] (l.map Zx).toArray
def zy(o:Ow)(h:Hp)(wb nb:Nat)(v:al)(to:Int)(b:Yn)(vs:List Vt):Prop:=
 ∃b3 b4 b5 b7 l w5 w,v=T6 104 [b3,b4,b5,b7]/\Ya o h b3 (Z [Zx wb].toArray 90)/\Ya o h b4 (Z [Zx nb].toArray 97) /\
  Ya o h b5 (Z (XN l w5).toArray 134)/\l.Jp=to/\l.b=b/\Ya o h b7 (Z [w].toArray 102)/\TO o h w vs
def zC(o:Ow)(h:Hp)(wb nb:Nat)(v:al)(to:Int)(x:Vt):Prop:=
 ∃b3 b4 b5 l w5,v=T6 109 [b3,b4,b5]/\Ya o h b3 (Z [Zx wb].toArray 90)/\Ya o h b4 (Z [Zx nb].toArray 97) /\
  Ya o h b5 (Z (XN l w5).toArray 134)/\l.Jp=to/\l.v=x
theorem zy.Ze{wb nb:Nat}{to:Int}{b:Yn}{vs:List Vt}(s:zy o h wb nb v to b vs)(k:Kp S o h o' h'):zy o' h' wb nb v to b vs:=by
 obtain⟨b3,b4,b5,b7,l,w5,w,h1,h2,h3,h4,h5,h6,h7,h8⟩:=s;exact⟨b3,b4,b5,b7,l,w5,w,h1,h2.Ze k,h3.Ze k,h4.Ze k,h5,h6,h7.Ze k,h8.Ze k⟩
theorem zC.Ze{wb nb:Nat}{to:Int}{x:Vt}(s:zC o h wb nb v to x)(k:Kp S o h o' h'):zC o' h' wb nb v to x:=by
 obtain⟨b3,b4,b5,l,w5,h1,h2,h3,h4,h5,h6⟩:=s;exact⟨b3,b4,b5,l,w5,h1,h2.Ze k,h3.Ze k,h4.Ze k,h5,h6⟩
def OJ(o:Ow)(h:Hp)(b:Nat)(a:UH):Prop:=∃w,Ya o h b (Z (Xy a.p w).toArray 104)/\TO o h w a.l
theorem OJ.Ze{b:Nat}{a:UH}(s:OJ o h b a)(k:Kp S o h o' h'):OJ o' h' b a:=by
 obtain⟨w,h1,h2⟩:=s;exact⟨w,h1.Ze k,h2.Ze k⟩
def Zmz(o:Ow)(h:Hp)(i nb:Nat)(ra:Option RA)(v:al)(a:UH)(vs:List Vt)(cur:Bool):Prop:=
 ∃b6 b4 b7 b5 w rb,v=T6 113 [b6,b4,b7,b5]/\OJ o h b6 a/\Ya o h b4 (Z [Zx nb].toArray 97)/\Ya o h b7 (Z [w].toArray 102)/\TO o h w vs /\
  Ya o h b5 (Z [Zx rb].toArray 105) /\
  (if cur=true then ∃a,ra=U a/\a.rb=rb else ∃cs pb pv,WJ o (.XV i) h rb (Z cs 155)/\cs[2]? = U (.map (U pb))/\U6 o (.XV i) h pb pv)
def Vu(o:Ow)(h:Hp)(wb i nb:Nat)(ra:Option RA):al->Option Kf->Prop
 | v,ae=>v=.nilFunc
 | v,U (.Vy a to b vs)=>∃b6 b4 b9 u,v=T6 106 [b6,b4,b9]/\OJ o h b6 a/\Ya o h b4 (Z [Zx nb].toArray 97)/\Ya o h b9 (Z [u].toArray 1)/\zy o h wb nb u to b vs
 | v,U (.TC a to x)=>∃b6 b4 b9 u,v=T6 112 [b6,b4,b9]/\OJ o h b6 a/\Ya o h b4 (Z [Zx nb].toArray 97)/\Ya o h b9 (Z [u].toArray 1)/\zC o h wb nb u to x
 | v,U (.Zm a vs cur)=>Zmz o h i nb ra v a vs cur
theorem Vu.Ze{wb i nb:Nat}{ra:Option RA}{p:Option Kf}(s:Vu o h wb i nb ra v p)(k:Kp S o h o' h')(hn:¬S (.XV i)):Vu o' h' wb i nb ra v p:=by
 match p,s with
 | none,s=>exact s
 | some (.Vy a to b vs),⟨b6,b4,b9,u,h1,h2,h3,h4,h5⟩=>exact⟨b6,b4,b9,u,h1,h2.Ze k,h3.Ze k,h4.Ze k,h5.Ze k⟩
 | some (.TC a to x),⟨b6,b4,b9,u,h1,h2,h3,h4,h5⟩=>exact⟨b6,b4,b9,u,h1,h2.Ze k,h3.Ze k,h4.Ze k,h5.Ze k⟩
 | some (.Zm a vs cur),⟨b6,b4,b7,b5,w,rb,h1,h2,h3,h4,h5,h6,h7⟩=>
  refine⟨b6,b4,b7,b5,w,rb,h1,h2.Ze k,h3.Ze k,h4.Ze k,h5.Ze k,h6.Ze k,?_⟩
  cases cur with
  | true=>exact h7
  | false=>
   obtain⟨cs,pb,pv,g1,g2,g3⟩:=h7;exact⟨cs,pb,pv,g1.Ze k hn,g2,g3.Ze k hn⟩
structure NA where
 data:al
 XO:al
 Zg:Option RA
 Zh:Nat
 Zw:al
 Zr:al
 Zi:al
 Zf:al
 Zp:al
def VL(n:Nd)(a:NA):List al:=[Q J n.me,aq n.up,a.data,Q J n.YS,Q J n.Zm.p.r,Q J n.Zm.p.n,a.XO,Q J n.Z8.r,Q J n.Z8.n,Mv a.Zg,.map (U a.Zh),a.Zw]++(n.store++[a.Zr,a.Zi,a.Zf,a.Zp,Q J n.Yt])
def X9(n:Nd)(a:NA):Obj:=Z (VL n a).toArray 108
structure LM(cs:List al):Prop where
 fit:Xa JO cs=true
 num:∀i,i<32->nth cs i=U (Q J (ci cs i))
 yes:∀i,32<=i->i<40->nth cs i=U (aq (cb cs i))
structure Yh(o:Ow)(h:Hp)(wb i nb:Nat)(a:NA)(n:Nd):Prop where
 data:PT o h a.data n.data
 XO:TO o h a.XO n.Zm.l
 Zg:Zdw o i h a.Zg n.Zg
 Zh:U6 o (.Zh i) h a.Zh (VC Sv n.Zh)
 Zw:Wu o (.Zw i) h a.Zw n.Zw
 Zr:Wu o (.Zr i) h a.Zr n.Zr
 Zi:Wu o (.Zi i) h a.Zi n.Zi
 Zf:WH o (.Zf i) h a.Zf n.Zf
 Zp:Vu o h wb i nb a.Zg a.Zp n.Zp
 store:LM n.store
structure Z5(o:Ow)(h:Hp)(wb i nb:Nat)(a:NA)(n:Nd):Prop where
 ZW:WJ o (.ZV i) h nb (X9 n a)
 pt:Yh o h wb i nb a n
theorem KL{i:Nat}{t:Tg}(h:JV i t):t.of=U i:=by
 rcases h with rfl|rfl|rfl|rfl|⟨s,rfl⟩<;>rfl
section
variable {S:Tg->Prop} {o o':Ow} {h h':Hp} {wb i nb:Nat} {a:NA} {n:Nd}
theorem Yh.Ze(s:Yh o h wb i nb a n)(k:Kp S o h o' h')(hn:∀t,S t->t.of≠U i\/t=.ZV i):Yh o' h' wb i nb a n:=by
 have q:∀t:Tg,t.of=U i->t ≠ .ZV i->¬S t:=fun t ht Y4 hs=>(hn t hs).elim (fun q=>q ht) Y4;exact⟨s.data.Ze k,s.XO.Ze k,s.Zg.Ze k (fun t ht=>q t (KL ht) (by rcases ht with rfl|rfl|rfl|rfl|⟨z,rfl⟩<;>intro e<;>cases e)),s.Zh.Ze k (q _ rfl Hy),s.Zw.Ze k (q _ rfl Hy),s.Zr.Ze k (q _ rfl Hy),s.Zi.Ze k (q _ rfl Hy),s.Zf.Ze k (q _ rfl Hy),s.Zp.Ze k (q _ rfl Hy),s.store⟩
theorem Z5.Ze(s:Z5 o h wb i nb a n)(k:Kp S o h o' h')(hn:∀t,S t->t.of≠U i):Z5 o' h' wb i nb a n:=
 ⟨s.ZW.Ze k fun q=>hn _ q rfl,s.pt.Ze k fun t ht=>.inl (hn t ht)⟩
theorem Yh.put(s:Yh o h wb i nb a n)(d:Vx o h){x:Obj}(b:WJ o (.ZV i) h nb x):Z5 o (h.setIfInBounds nb (X9 n a)) wb i nb a n:=
 ⟨⟨b.1,ZQ b.2⟩,s.Ze ((Kp.refl d (fun t=>t=.ZV i)).set b.1 rfl _) fun t ht=>.inr ht⟩
theorem Yh.write(s:Yh o h wb i nb a n)(d:Vx o h){x:Obj}(b:WJ o (.ZV i) h nb x){e:Option Hp}(w:e=U (h.setIfInBounds nb (X9 n a))):∃g,e=U g/\Z5 o g wb i nb a n/\Kp (fun t=>t=.ZV i) o h o g:=
 ⟨_,w,s.put d b,(Kp.refl d (fun t=>t=.ZV i)).set b.1 rfl _⟩
theorem Yh.DZ(s:Yh o h wb i nb a n)(k:Kp (fun t=>t=.Zr i) o h o' h')(hv:Wu o' (.Zr i) h' v l):Yh o' h' wb i nb { a with Zr:=v } { n with Zr:=l }:=
 ⟨s.data.Ze k,s.XO.Ze k,s.Zg.Ze k (fun t ht=>by rcases ht with rfl|rfl|rfl|rfl|⟨z,rfl⟩<;>intro e<;>cases e),s.Zh.Ze k Hy,s.Zw.Ze k Hy,hv,s.Zi.Ze k Hy,s.Zf.Ze k Hy,s.Zp.Ze k Hy,s.store⟩
theorem Yh.Zdx(s:Yh o h wb i nb a n)(k:Kp (fun t=>t=.Zw i) o h o' h')(hv:Wu o' (.Zw i) h' v l):Yh o' h' wb i nb { a with Zw:=v } { n with Zw:=l }:=
 ⟨s.data.Ze k,s.XO.Ze k,s.Zg.Ze k (fun t ht=>by rcases ht with rfl|rfl|rfl|rfl|⟨z,rfl⟩<;>intro e<;>cases e),s.Zh.Ze k Hy,hv,s.Zr.Ze k Hy,s.Zi.Ze k Hy,s.Zf.Ze k Hy,s.Zp.Ze k Hy,s.store⟩
theorem Yh.IR(s:Yh o h wb i nb a n)(k:Kp (fun t=>t=.Zi i) o h o' h')(hv:Wu o' (.Zi i) h' v l):Yh o' h' wb i nb { a with Zi:=v } { n with Zi:=l }:=
 ⟨s.data.Ze k,s.XO.Ze k,s.Zg.Ze k (fun t ht=>by rcases ht with rfl|rfl|rfl|rfl|⟨z,rfl⟩<;>intro e<;>cases e),s.Zh.Ze k Hy,s.Zw.Ze k Hy,s.Zr.Ze k Hy,hv,s.Zf.Ze k Hy,s.Zp.Ze k Hy,s.store⟩
theorem Yh.rh(s:Yh o h wb i nb a n)(k:Kp (fun t=>t=.Zf i) o h o' h'){l:List YF}(hv:WH o' (.Zf i) h' v l):Yh o' h' wb i nb { a with Zf:=v } { n with Zf:=l }:=
 ⟨s.data.Ze k,s.XO.Ze k,s.Zg.Ze k (fun t ht=>by rcases ht with rfl|rfl|rfl|rfl|⟨z,rfl⟩<;>intro e<;>cases e),s.Zh.Ze k Hy,s.Zw.Ze k Hy,s.Zr.Ze k Hy,s.Zi.Ze k Hy,hv,s.Zp.Ze k Hy,s.store⟩
theorem Yh.rn(s:Yh o h wb i nb a n)(k:Kp (fun t=>t=.Zh i) o h o' h'){v:Nat}{l:List (Int × Cm)}(hv:U6 o' (.Zh i) h' v (VC Sv l)):Yh o' h' wb i nb { a with Zh:=v } { n with Zh:=l }:=
 ⟨s.data.Ze k,s.XO.Ze k,s.Zg.Ze k (fun t ht=>by rcases ht with rfl|rfl|rfl|rfl|⟨z,rfl⟩<;>intro e<;>cases e),hv,s.Zw.Ze k Hy,s.Zr.Ze k Hy,s.Zi.Ze k Hy,s.Zf.Ze k Hy,s.Zp.Ze k Hy,s.store⟩
theorem Yh.U7(s:Yh o h wb i nb a n)(k:Kp (JV i) o h o' h'){ra ra':RA}{r':Xw}(hr:a.Zg=U ra)(LN:ra'.rb=ra.rb)(hv:Xx o' i h' ra' r'):Yh o' h' wb i nb { a with Zg:=U ra' } { n with Zg:=U r' }:=by
 have q:∀t,t.of=U i->(¬ ∃u,t=u/\JV i u)->¬JV i t:=fun t _ h2 h3=>h2 ⟨t,rfl,h3⟩;have e:∀t:Tg,(t=.Zh i\/t=.Zw i\/t=.Zr i\/t=.Zi i\/t=.Zf i\/t=.XV i)->¬JV i t:=by
  intro t ht hr;rcases ht with rfl|rfl|rfl|rfl|rfl|rfl<;>rcases hr with e|e|e|e|⟨s,e⟩<;>cases e
 refine⟨s.data.Ze k,s.XO.Ze k,hv,s.Zh.Ze k (e _ uK),s.Zw.Ze k (e _ uK),s.Zr.Ze k (e _ uK),s.Zi.Ze k (e _ uK),s.Zf.Ze k (e _ uK),?_,s.store⟩;have hp:=s.Zp.Ze k (e _ uK);show Vu o' h' wb i nb (U ra') a.Zp n.Zp;rw[hr]at hp
 match hn:n.Zp,hp with
 | none,hp=>exact hp
 | some (.Vy _ _ _ _),hp=>exact hp
 | some (.TC _ _ _),hp=>exact hp
 | some (.Zm _ _ cur),⟨b6,b4,b7,b5,w,rb,h1,h2,h3,h4,h5,h6,h7⟩=>
  refine⟨b6,b4,b7,b5,w,rb,h1,h2,h3,h4,h5,h6,?_⟩
  cases cur with
  | false=>exact h7
  | true=>
   obtain⟨c,hc,hcr⟩:=h7;obtain rfl:=Option.some.inj hc;exact⟨ra',rfl,LN.trans hcr⟩
end
structure WA where
 Zb:al
 Zo:al
 ZA:al
def X4(Yw:Nat->Int)(a:WA):List al:=[a.Zb,a.Zo,Q J 0,aq false,aq false,aq false,aq false,aq false,ab ae 0 0,Q J (Yw 0),Q J (Yw 1),Q J (Yw 2),Q J (Yw 3),Q J (Yw 4),a.ZA]
structure ZY(o:Ow)(h:Hp)(wb:Nat)(nb:Nat->Nat)(a:WA)(fl:List YF)(Yw:Nat->Int)(ZA:List PS):Prop where
 ZW:WJ o .world h wb (Z (X4 Yw a).toArray 96)
 Zb:XC o .Zb 97 1 h a.Zb 5 [Zx (nb 0),Zx (nb 1),Zx (nb 2),Zx (nb 3),Zx (nb 4)]
 Zo:WH o .Zo h a.Zo fl
 ZA:XC o .ZA 58 5 h a.ZA (O ZA) (ZU Mu ZA)
theorem ZY.Ze{wb:Nat}{nb:Nat->Nat}{a:WA}{fl:List YF}{Yw:Nat->Int}{ZA:List PS}(s:ZY o h wb nb a fl Yw ZA)(k:Kp S o h o' h')(hn:∀t,S t->t.of≠ae):ZY o' h' wb nb a fl Yw ZA:=
 ⟨s.ZW.Ze k fun q=>hn _ q rfl,s.Zb.Ze k fun q=>hn _ q rfl,s.Zo.Ze k fun q=>hn _ q rfl,s.ZA.Ze k fun q=>hn _ q rfl⟩
def WL(t:Tg):Prop:=False
section
variable {S:Tg->Prop} {o o':Ow} {h h':Hp}
theorem ZX(d:Vx o h)(b:Zj h.size h h'):Kp WL o h o h':=Kp.GK d b _
theorem Z0(k:Kp WL o h o' h'):Kp S o h o' h':=k.mono fun _ q=>q.elim
theorem Z5.Zn{wb i nb:Nat}{a:NA}{n:Nd}(s:Z5 o h wb i nb a n)(k:Kp WL o h o' h'):Z5 o' h' wb i nb a n:=s.Ze k fun _ q=>q.elim
theorem ZY.Zn{wb:Nat}{nb:Nat->Nat}{a:WA}{fl:List YF}{Yw:Nat->Int}{ZA:List PS}(s:ZY o h wb nb a fl Yw ZA)(k:Kp WL o h o' h'):ZY o' h' wb nb a fl Yw ZA:=s.Ze k fun _ q=>q.elim
theorem Yu(d:Vx o h)(x:Obj):Kp WL o h o (h.push x):=(Kp.refl d _).push x
end
structure fK(o:Ow)(h:Hp):Prop where
 tk:Tk h
 tn:Aw 1 niv PG h
 fk:o 0=ae
 fn:o 1=ae
theorem BQ{g:Nat}{f:Nat->al}{l:List Nat}(t:Aw g f l h)(hf:o g=ae)(k:Kp S o h o' h'):Aw g f l h'/\o' g=ae:=by
 obtain⟨h1,h2⟩:=k.Ze g t.1 fun t ht=>by rw[hf]at ht;cases ht
 refine⟨⟨bS t.1 k.size,fun i hi=>?_⟩,by rw[h2,hf]⟩;have:=t.2 i hi;unfold hc at this ⊢;rw[h1];exact this
theorem fK.Ze(t:fK o h)(k:Kp S o h o' h'):fK o' h':=
 ⟨(BQ t.tk t.fk k).1,(BQ t.tn t.fn k).1,(BQ t.tk t.fk k).2,(BQ t.tn t.fn k).2⟩
theorem LM.len(s:LM cs):(O cs)=40:=by
 have:=YE s.fit;rw[this];rfl
theorem LM.one(s:LM cs):cs.all YD=true:=Re s.fit
theorem zD(a:Option RA):YD (Mv a)=true:=by cases a<;>rfl
section
variable {h:Hp} {nb:Nat} {n:Nd} {a:NA}
structure ZhA(h:Hp)(nb:Nat)(n:Nd)(a:NA):Prop where
 me:hc h ⟨nb,0,ae⟩=U (Q J n.me)
 up:hc h ⟨nb,1,ae⟩=U (aq n.up)
 tape:rd h ⟨nb,2,ae⟩ 2=U [a.data,Q J n.YS]
 Zm:rd h ⟨nb,4,ae⟩ 3=U [Q J n.Zm.p.r,Q J n.Zm.p.n,a.XO]
 cN:rd h ⟨nb,4,ae⟩ 2=U [Q J n.Zm.p.r,Q J n.Zm.p.n]
 ZuY:hc h ⟨nb,4,ae⟩=U (Q J n.Zm.p.r)
 ZHc:hc h ⟨nb,5,ae⟩=U (Q J n.Zm.p.n)
 XO:hc h ⟨nb,6,ae⟩=U a.XO
 Z8:rd h ⟨nb,7,ae⟩ 2=U [Q J n.Z8.r,Q J n.Z8.n]
 ZhB:hc h ⟨nb,7,ae⟩=U (Q J n.Z8.r)
 Zg:hc h ⟨nb,9,ae⟩=U (Mv a.Zg)
 Zh:hc h ⟨nb,10,ae⟩=U (.map (U a.Zh))
 Zw:hc h ⟨nb,11,ae⟩=U a.Zw
 store:rd h ⟨nb,12,ae⟩ 40=U n.store
 Zr:hc h ⟨nb,52,ae⟩=U a.Zr
 Zi:hc h ⟨nb,53,ae⟩=U a.Zi
 Zf:hc h ⟨nb,54,ae⟩=U a.Zf
 Zp:hc h ⟨nb,55,ae⟩=U a.Zp
 Yt:hc h ⟨nb,56,ae⟩=U (Q J n.Yt)
theorem D0(hs:(O n.store)=40):(VL n a).length=57:=by
 unfold VL;rw[am,am,hs];rfl
theorem OK(hs:(O n.store)=40)(k:Nat):nth (VL n a) (52+k)=nth [a.Zr,a.Zi,a.Zf,a.Zp,Q J n.Yt] k:=by
 unfold VL;rw[YW,YW,bh Ig,bh Ig]
 congr 1
 simp;omega
theorem ZP(H:h[nb]? = U (X9 n a))(hs:(O n.store)=40):ZhA h nb n a:=by
 have l57:=D0 (a:=a) hs;have c:∀k,hc h ⟨nb,k,ae⟩=nth (VL n a) k:=fun k=>Zl H;have r:∀k m,k+m<=57->rd h ⟨nb,k,ae⟩ m=U (((VL n a).drop k).take m):=fun k m hk=>YJ H (by rw[l57];exact hk);refine⟨c 0,c 1,r 2 2 nT,r 4 3 nT,r 4 2 nT,c 4,c 5,c 6,r 7 2 nT,c 7,c 9,c 10,c 11,?_,(c 52).trans (OK hs 0),(c 53).trans (OK hs 1),(c 54).trans (OK hs 2),(c 55).trans (OK hs 3),(c 56).trans (OK hs 4)⟩;rw[r 12 40 nT]
 congr 1
 unfold VL;rw[List.drop_append_of_le_length uK];simp only[List.drop_succ_cons,List.drop_nil,List.drop_zero,bt];rw[<-hs,List.take_left'];rfl
structure ZhC(h:Hp)(nb:Nat)(n:Nd)(a:NA):Prop where
 up:∀v,QQ h ⟨nb,1,ae⟩ (aq v)=U (h.setIfInBounds nb (X9 { n with up:=v } a))
 tape:∀d s,YD d=true->wr h ⟨nb,2,ae⟩ [d,Q J s]=U (h.setIfInBounds nb (X9 { n with YS:=s } { a with data:=d }))
 Zm:∀r k w,YD w=true->wr h ⟨nb,4,ae⟩ [Q J r,Q J k,w]=U (h.setIfInBounds nb (X9 { n with Zm:=⟨⟨r,k⟩,n.Zm.l⟩ } { a with XO:=w }))
 Z8:∀r k,wr h ⟨nb,7,ae⟩ [Q J r,Q J k]=U (h.setIfInBounds nb (X9 { n with Z8:=⟨r,k⟩ } a))
 Zg:∀b,QQ h ⟨nb,9,ae⟩ (Mv b)=U (h.setIfInBounds nb (X9 n { a with Zg:=b }))
 Zw:∀v,YD v=true->QQ h ⟨nb,11,ae⟩ v=U (h.setIfInBounds nb (X9 n { a with Zw:=v }))
 store:∀cs:List al,(O cs)=40->cs.all YD=true->wr h ⟨nb,12,ae⟩ cs=U (h.setIfInBounds nb (X9 { n with store:=cs } a))
 Zr:∀v,YD v=true->QQ h ⟨nb,52,ae⟩ v=U (h.setIfInBounds nb (X9 n { a with Zr:=v }))
 Zi:∀v,YD v=true->QQ h ⟨nb,53,ae⟩ v=U (h.setIfInBounds nb (X9 n { a with Zi:=v }))
 Zf:∀v,YD v=true->QQ h ⟨nb,54,ae⟩ v=U (h.setIfInBounds nb (X9 n { a with Zf:=v }))
 Zp:∀v,YD v=true->QQ h ⟨nb,55,ae⟩ v=U (h.setIfInBounds nb (X9 n { a with Zp:=v }))
 Yt:∀k,QQ h ⟨nb,56,ae⟩ (Q J k)=U (h.setIfInBounds nb (X9 { n with Yt:=k } a))
theorem set_tail(pre mid l:List al)(k:Nat)(v:al)(hk:(O pre)+(O mid)=52):(pre++(mid++l)).set (52+k) v=pre++(mid++l.set k v):=by
 rw[bC _ _ nT,bC _ _ nT]
 congr 3
 omega
theorem XH(H:h[nb]? = U (X9 n a))(hs:(O n.store)=40):ZhC h nb n a:=by
 have l57:=D0 (a:=a) hs;have w1:∀(k:Nat) (v:al) (n':Nd) (a':NA),k<57->YD v=true->(VL n a).set k v=VL n' a'->QQ h ⟨nb,k,ae⟩ v=U (h.setIfInBounds nb (X9 n' a')):=fun k v n' a' hk hv he=>by
  rw[Xh H,if_pos ⟨by rw[l57];exact hk,hv⟩,he];rfl
 have w:∀(k:Nat) (vs:List al) (n':Nd) (a':NA),k+(O vs)<=57->vs.all YD=true->Y8 (VL n a) k vs=VL n' a'->wr h ⟨nb,k,ae⟩ vs=U (h.setIfInBounds nb (X9 n' a')):=fun k vs n' a' hk hv he=>by
  rw[Yd H,if_pos ⟨by rw[l57];exact hk,hv⟩,he];rfl
 refine⟨fun v=>w1 _ _ _ _ nT rfl rfl,fun d s hd=>w _ _ _ _ uK (by rw[ch,hd];rfl) rfl,fun r k v hv=>w _ _ _ _ uK (by simp only[ch,hv];rfl) rfl,fun r k=>w _ _ _ _ uK (by simp[YD]) rfl,fun b=>w1 _ _ _ _ nT (zD b) rfl,fun v hv=>w1 _ _ _ _ nT hv rfl,fun cs hl XW=>w _ _ _ _ nT XW ?_,
  fun v hv=>w1 _ _ _ _ nT hv ?_,fun v hv=>w1 _ _ _ _ nT hv ?_,fun v hv=>w1 _ _ _ _ nT hv ?_,fun v hv=>w1 _ _ _ _ nT hv ?_,fun k=>w1 _ _ _ _ nT rfl ?_⟩
 .unfold VL;exact Sf rfl (by rw[hl,hs])
 all_goals
  unfold VL
  first
   | exact set_tail _ _ _ 0 _ (by rw[hs];rfl)
   | exact set_tail _ _ _ 1 _ (by rw[hs];rfl)
   | exact set_tail _ _ _ 2 _ (by rw[hs];rfl)
   | exact set_tail _ _ _ 3 _ (by rw[hs];rfl)
   | exact set_tail _ _ _ 4 _ (by rw[hs];rfl)
end
section
variable {h:Hp} {wb:Nat} {Yw:Nat->Int} {a:WA}
structure Zdy(h:Hp)(wb:Nat)(Yw:Nat->Int)(a:WA):Prop where
 Zb:hc h ⟨wb,0,ae⟩=U a.Zb
 Zo:hc h ⟨wb,1,ae⟩=U a.Zo
 ZA:hc h ⟨wb,14,ae⟩=U a.ZA
 out:rd h ⟨wb,2,ae⟩ 13=U [Q J 0,aq false,aq false,aq false,aq false,aq false,ab ae 0 0,Q J (Yw 0),Q J (Yw 1),Q J (Yw 2),Q J (Yw 3),Q J (Yw 4),a.ZA]
 BR:∀v,YD v=true->QQ h ⟨wb,1,ae⟩ v=U (h.setIfInBounds wb (Z (X4 Yw { a with Zo:=v }).toArray 96))
 Zfw:∀v,YD v=true->QQ h ⟨wb,14,ae⟩ v=U (h.setIfInBounds wb (Z (X4 Yw { a with ZA:=v }).toArray 96))
 ZhD:∀v,YD v=true->QQ h ⟨wb,0,ae⟩ v=U (h.setIfInBounds wb (Z (X4 Yw { a with Zb:=v }).toArray 96))
theorem XP(H:h[wb]? = U (Z (X4 Yw a).toArray 96)):Zdy h wb Yw a:=by
 refine⟨Zl H,Zl H,Zl H,YJ H (by simp[X4]),fun v hv=>?_,fun v hv=>?_,fun v hv=>?_⟩
 all_goals
  rw[Xh H,if_pos ⟨by simp[X4],hv⟩];rfl
end
theorem Im.ZO{n:Nat}{m:Nat}(s:Im o n h v m cs):∃p c,v=ab p m c:=by
 obtain⟨p,c,h,_⟩:=s.fits;exact⟨p,c,h⟩
theorem Tq{α:Type}(enc:α->List al)(x:α):ZU enc [x]=enc x:=by simp[ZU]
def mL(t:Tg):Prop:=t=.world\/t=.Zo
theorem V0(h:Hp)(o:Ow)(wb nb:Nat)(YM:Nat->Nat)(me:Nat)(Xt:WA)(fl:List YF)(Yw:Nat->Int)(ZA:List PS)(to:Int)(l:YF)(w:al)(d:Vx o h)(W:ZY o h wb YM Xt fl Yw ZA)(Hv:hc h ⟨nb,0,ae⟩=U (Q J me))(TU:nb<h.size)(iv:TO o h w l.vs)(Y5:(O fl)<=1000000000000):
  Zd ao T 92 #[Zx wb,Zx nb,Q J to,a3 (XN l w).toArray] h fun v' h'=>∃o' Jv,Kp mL o h o' h'/\(∀b,b<h.size->o' b=o b)/\ZY o' h' wb YM Jv (fl++[⟨l.ZR,me,to,l.b,l.v,l.vs⟩]) Yw ZA:=by
 obtain⟨p,c,hw⟩:=iv.ZO;have XW:YD w=true:=by rw[hw];rfl
 have BS:=Za W.ZW.2;have R0:=XP W.ZW.2;refine Zd.XT [_,_,_,_] Tryz.func92 ?_;unfold Zx XN;have e1:nb≠h.size:=nT;have e2:wb≠h.size:=nT;simp only[go_sem,OV,e1,Hv];refine VS.z (h.size+1) [7,10] (.p 0 (.p 1 (.p 2 (.p 3 (.q 4 (.q 5 (.s 6 (.w 7 (.p 8 (.p 9 (.w 10 .nil))))))))))) mixed uj ?_;simp only[go_sem,OV,lH,e1,e2,Hv,R0.Zo,BS];obtain⟨h1,Xm⟩:=ZN (h.push (Z (XN ⟨l.ZR,me,to,l.b,l.v,l.vs⟩ w).toArray 134):Hp);have s1:h1.size=h.size+1:=by rw[Xm];simp
 obtain⟨h2,VZ⟩:=ZN (h1.push (Z (XN ⟨l.ZR,me,to,l.b,l.v,l.vs⟩ w).toArray 134):Hp);have ee:((h.push (Z (XN ⟨l.ZR,me,to,l.b,l.v,l.vs⟩ w).toArray 134)).push (Z (XN ⟨l.ZR,me,to,l.b,l.v,l.vs⟩ w).toArray 134))=h2:=by rw[VZ,Xm]
 unfold XN at ee;simp only at ee;refine⟨Zj.push uK _,?_⟩;rw[ee];have k2:Kp (fun _=>False) o h o h2:=by rw[VZ,Xm];exact ((Kp.refl d _).push _).push _
 have W2:=W.Ze k2 (fun _ q=>q.elim);have uA:=iv.Ze k2;obtain⟨xs,Wi,Mj,iQ⟩:=W2.Zo;have BD:(O xs)=(O fl):=by rw[<-Wi,List.length_map]
 have src:Sl 14 h2 (ab (U ⟨h.size+1,0,ae⟩) 1 1) 1 (XN ⟨l.ZR,me,to,l.b,l.v,l.vs⟩ w):=by
  rw[VZ,<-s1];exact Sl.made (by simp[XN]) 1
 refine QT (E:=134) (n:=14) (bytes:=128) (k:=1) lT b8 xo lW rfl Ze8 Mj k2.Yp src (by rw[XN,bc];intro x hx;simp at hx;rcases hx with rfl|rfl|rfl|rfl|rfl|rfl|rfl|rfl|rfl|rfl|rfl|rfl|rfl|rfl<;>first|rfl|exact XW) nT nT ?_;intro v' o3 h3 w3 k3 q3;have b3:=W2.ZW.Ze k3 aai;have R3:=XP b3.2;obtain⟨p3,c3,rfl,_⟩:=w3.ZO;have hw3:=Za b3.2;have e3:=R3.BR (ab p3 ((O xs)+1) c3) rfl;simp only[go_sem,e3];have k4:Kp mL o h o3 h3:=(k2.mono fun _ q=>q.elim).trans (k3.mono fun u q=>.inr q);have k5:=k4.set b3.1 (.inl rfl) (Z (X4 Yw { Xt with Zo:=ab p3 ((O xs)+1) c3 }).toArray 96);have kk:Kp (fun u=>u=.world) o3 h3 o3 (h3.setIfInBounds wb (Z (X4 Yw { Xt with Zo:=ab p3 ((O xs)+1) c3 }).toArray 96)):=(Kp.refl k3.Yp (fun u=>u=.world)).set b3.1 rfl _;refine⟨o3,{ Xt with Zo:=ab p3 ((O xs)+1) c3 },k5,fun b hb=>q3 b (by have:=k2.size;omega),⟨b3.1,ZQ b3.2⟩,(W2.Zb.Ze k3 aai).Ze kk aai,⟨xs++[(⟨l.ZR,me,to,l.b,l.v,l.vs⟩,w)],?_,?_,fun x hx=>?_⟩,(W2.ZA.Ze k3 aai).Ze kk aai⟩
 .rw[List.map_append,Wi];rfl
 .have:=w3.Ze kk aai;rw[Y6,Tq,am];exact this
 .rcases List.mem_append.1 hx with hx|hx
  .exact ((iQ x hx).Ze k3).Ze kk
  .have:x=(⟨l.ZR,me,to,l.b,l.v,l.vs⟩,w):=by simpa using hx
   subst this;exact (uA.Ze k3).Ze kk
@[go_sem] theorem Zu0(x:Cm):Xa [U J,U J,U J,U J,U J] x.C=true:=rfl
@[go_sem] theorem Zu1(x y:Cm):leq x.C y.C=decide (x=y):=by
 obtain⟨a,b,c,d,e⟩:=x;obtain⟨a',b',c',d',e'⟩:=y;unfold Qo.C Uy;rw[bw];simp[leq,ceq,Qo.mk.injEq]
@[go_sem] theorem LO(x:Cm):x.C.length=5:=rfl
@[go_sem] theorem zE(x:Cm):x.C.all YD=true:=rfl
@[go_sem] theorem Zp2(x:Cm):Y8 [Q J 0,Q J 0,Q J 0,Q J 0,Q J 0] 0 x.C=x.C:=rfl
theorem Q2(s:Ts Qo.C 5 h v l):∃p c,v=ab p (O l) c/\(l≠[]->∃b o,p=U ⟨b,o,ae⟩/\b<h.size/\∀i (hi:i<(O l)),rd h ⟨b,o+i*5,ae⟩ 5=U (l[i]).C):=by
 obtain⟨p,c,hv,hh⟩:=s.open LO Iw;refine⟨p,c,hv,fun Y4=>?_⟩;obtain⟨b,o,h1,h2,h3⟩:=hh Y4;exact⟨b,o,h1,h2,fun i hi=>(h3 i hi).rd (by simp[Qo.C,Uy]) rfl⟩
def Rx(l:List Cm)(x:Cm):Int:=if x∈l then (l.idxOf x:Int) else -1
theorem zF{x:Cm}{i:Nat}(hi:i<(O l))(he:l[i]=x)(hn:∀j (hj:j<(O l)),j<i->l[j]≠x):l.idxOf x=i:=by
 have hx:x∈l:=he▸bk hi;have h1:l.idxOf x<(O l):=ba hx;have h2:l[l.idxOf x]=x:=b0 h1;rcases Nat.lt_trichotomy (l.idxOf x) i with h|h|h
 .exact absurd h2 (hn _ h1 h)
 .exact h
 .have:=bo (p:=(· == x)) (xs:=l) (i:=i) h
  simp[he]at this
theorem mM{x:Cm}{i:Nat}(hi:i<(O l))(he:l[i]=x)(hn:∀j (hj:j<(O l)),j<i->l[j]≠x):Rx l x=i:=by
 unfold Rx;rw[if_pos (he▸bk hi),zF hi he hn]
theorem D1{x:Cm}(hn:∀j (hj:j<(O l)),l[j]≠x):Rx l x = -1:=by
 unfold Rx;rw[if_neg fun hm=>by obtain⟨j,hj,he⟩:=bg hm;exact hn j hj he]
theorem LP(l:List Cm)(x:Cm):0<=Rx l x↔x∈l:=by
 unfold Rx;split
 .rename_i h;exact⟨fun _=>h,fun _=>by omega⟩
 .rename_i h;exact⟨fun q=>by omega,fun q=>absurd q h⟩
theorem Fy(h:Hp)(v:al)(l:List Cm)(x:Cm)(s:Ts Qo.C 5 h v l)(hl:(O l)<=4611686018427387904):
  Zd ao T 65 #[v,Sv x] h fun v' h'=>v'=Q J (Rx l x)/\Zj h.size h h':=by
 obtain⟨p,c,rfl,XI⟩:=Q2 s;refine Zd.XT [_,_] Tryz.func65 ?_;unfold Sv;simp only[go_sem];obtain⟨h1,Xm⟩:=ZN (h.push (Z x.C.toArray 24):Hp);have b1:Zj h.size h h1:=by rw[Xm];exact Zj.push (a6 _) _
 have x1:h1[h.size]? = U (Z x.C.toArray 24):=by rw[Xm];exact Zc
 rw[<-Xm];clear Xm;refine VS.Yk (fun F g=>g=h1/\F 0=ab p (O l) c/\F 3=aw (U ⟨h.size,0,ae⟩)/\F 7=Q J (O l)/\∃i:Nat,i<=(O l)/\F 8=Q J i/\∀j (hj:j<(O l)),j<i->l[j]≠x)
  (fun F _=>(O l)-(vi (F 8)).toNat) rfl ⟨rfl,rfl,rfl,rfl,0,nT,rfl,fun j hj q=>by omega⟩ ?_
 rintro F g ⟨rfl,f0,f3,f7,i,hi,f8,Jc⟩;by_cases ZS:i<(O l)
 .have Z7:(i:Int)<(O l):=nT;obtain⟨bb,oo,rfl,T5,Bo⟩:=XI (by intro e;rw[e]at ZS;simp at ZS);have r1:rd g ⟨bb,oo+i*5,ae⟩ 5=U (l[i]).C:=by rw[Um b1 (by exact T5)];exact Bo i ZS
  have r0:rd g ⟨h.size,0,ae⟩ 5=U x.C:=Zz x1 rfl;simp only[go_sem,f0,f3,f7,f8,Z7];refine VS.q mixed uj ?_;simp only[go_sem,f0,f3,f7,f8,Z7,r1,r0];by_cases q:l[i]=x
  .have e:=mM ZS q Jc;rw[q];simp only[go_sem,e,b1]
  .have q':¬x=l[i]:=fun e=>q e.symm;simp only[go_sem,q',f0,f3,f7,f8];refine⟨⟨rfl,f0,f3,f7,i+1,ZS,rfl,fun j hj Sa=>?_⟩,?_⟩
   .by_cases e:j=i
    .subst e;exact q
    .exact Jc j hj nT
   .simp only[vi,Zq,↓reduceIte,f8];omega
 .have Xv:¬(i:Int)<(O l):=nT;have e:=D1 (l:=l) (x:=x) fun j hj=>Jc j hj nT;simp only[go_sem,f7,f8,Xv,e,b1]
theorem SQ(h:Hp)(v:al)(l:List Cm)(x:Cm)(s:Ts Qo.C 5 h v l)(hl:(O l)<=4611686018427387904):
  Zd ao T 67 #[v,Sv x] h fun v' h'=>v'=aq (decide (x∈l))/\Zj h.size h h':=by
 obtain⟨p,c,rfl,XI⟩:=Q2 s;refine Zd.XT [_,_] Tryz.func67 ?_;unfold Sv;simp only[go_sem];refine (Fy T _ _ l x (s.Yz ((Zj.refl _ _).add _)) hl).use ?_;rintro _ h2 ⟨rfl,b2⟩;have b:Zj h.size h h2:=((Zj.refl _ _).add _).trans (b2.mono uK);simp only[go_sem,LP,b]
theorem D2(h:Hp)(b:Nat)(x y:Cm)(hb:h[b]? = U (Z x.C.toArray 24)):
  Zd ao T 128 #[Sv y,Zx b] h fun v' h'=>v'=aq (decide (y=x))/\Zj h.size h h':=by
 have ZS:=Za hb;refine Zd.XT [_,_] Tryz.func128 ?_;unfold Sv Zx;have Y4:b≠h.size:=nT;have r0:rd (h.push (Z y.C.toArray 24)) ⟨h.size,0,ae⟩ 5=U y.C:=Zz Zc rfl;have r1:rd (h.push (Z y.C.toArray 24)) ⟨b,0,ae⟩ 5=U x.C:=Zz (by rw[ZI ZS];exact hb) rfl;simp only[go_sem,r0,r1]
def IS(b:Nat):al:=T6 128 [b]
theorem Fz(h:Hp)(v:al)(l:List Cm)(b:Nat)(x:Cm)(s:Ts Qo.C 5 h v l)(hb:h[b]? = U (Z x.C.toArray 24))(hl:(O l)<=4611686018427387904):
  Zd ao T 130 #[v,IS b] h fun v' h'=>v'=Q J (Rx l x)/\Zj h.size h h':=by
 obtain⟨p,c,rfl,XI⟩:=Q2 s;refine Zd.XT [_,_] Tryz.func130 ?_;have ZS:=Za hb;unfold IS T6;simp only[go_sem];refine VS.Yk (fun F g=>Zj h.size h g/\F 0=ab p (O l) c/\F 1=IS b/\F 7=Q J (O l)/\∃i:Nat,i<=(O l)/\F 8=Q J i/\∀j (hj:j<(O l)),j<i->l[j]≠x)
  (fun F _=>(O l)-(vi (F 8)).toNat) rfl ⟨Zj.refl _ _,rfl,rfl,rfl,0,nT,rfl,fun j hj q=>by omega⟩ ?_
 rintro F g ⟨hg,f0,f1,f7,i,hi,f8,Jc⟩;by_cases ZS:i<(O l)
 .have Z7:(i:Int)<(O l):=nT;obtain⟨bb,oo,rfl,T5,Bo⟩:=XI (by intro e;rw[e]at ZS;simp at ZS);have r1:rd g ⟨bb,oo+i*5,ae⟩ 5=U (l[i]).C:=by rw[Um hg (by exact T5)];exact Bo i ZS
  unfold IS T6 at f1;simp only[cg]at f1;simp only[go_sem,f0,f1,f7,f8,Z7,r1];refine (D2 T g b x l[i] (hg.get nT hb)).use ?_;rintro _ g1 ⟨rfl,b1⟩;have NO:Zj h.size h g1:=hg.trans (b1.mono hg.size);by_cases q:l[i]=x
  .have e:=mM ZS q Jc;simp only[go_sem,q,f8,e,NO]
  .simp only[go_sem,q,f0,f1,f7,f8];refine⟨⟨NO,f0,f1,f7,i+1,ZS,rfl,fun j hj Sa=>?_⟩,?_⟩
   .by_cases e:j=i
    .subst e;exact q
    .exact Jc j hj nT
   .simp only[vi,Zq,↓reduceIte,f8];omega
 .have Xv:¬(i:Int)<(O l):=nT;have e:=D1 (l:=l) (x:=x) fun j hj=>Jc j hj nT;simp only[go_sem,f7,f8,Xv,e,hg]
theorem cO(h:Hp)(o:Ow)(t:Tg)(v:al)(m i:Nat)(cs:List al)(s:XC o t 24 5 h v m cs)(d:Vx o h)(XW:cs.all YD=true)(hi:i<m)(hm:m<=4611686018427387904):
  Zd ao T 131 #[v,Q J i,Q J ((i:Int)+1)] h fun v' h'=>XC o t 24 5 h' v' (m-1) (cs.take (i*5)++cs.drop ((i+1)*5))/\Kp (fun u=>u=t) o h o h':=by
 rcases s with⟨⟨p,rfl⟩,rfl,rfl⟩|⟨b,off,cap,pre,ZG,h1,rfl,h3,h4,h5,h6,h7⟩
 .omega
 refine Zd.XT [_,_,_] Tryz.func131 ?_;have e1:(i:Int)<=m:=nT;have e2:(i:Int)+1<=m:=nT;have e3:(m:Int)<=cap:=nT;have e4:(i:Int)≠i+1:=nT;have e5:((i:Int)+1).toNat=i+1:=nT;have e6:(0:Int)<=i+1:=nT;have e7:(i:Int)<=i+1:=nT;have e8:(i:Int)<=cap:=nT;have c0:cap≠0:=nT;simp only[go_sem,e1,e2,e3,e4,e5,e6,e7,e8];refine VS.z (h.size) [6] (.p 0 (.p 1 (.p 2 (.p 3 (.p 4 (.p 5 (.w 6 (.p 7 .nil)))))))) mixed uj ?_;simp only[go_sem,e1,e2,e3,e4,e5,e6,e7,e8,c0];have H5:i*5<=m*5:=a7 _ nT;have Zu2:(i+1)*5<=m*5:=a7 _ nT;have ue:m*5<=cap*5:=a7 _ h7;have ZW:h[b]? = U (Z (pre++(cs.take (i*5)++(cs.drop (i*5)++ZG))).toArray 24 (0,0)):=by
  rw[<-a0 (cj _ _),a4];exact h3
 have src:Sl 5 h (ab (if cap=i+1 then U ⟨b,off,ae⟩ else U ⟨b,off+(i+1)*5,ae⟩) (m-(i+1)) (cap-(i+1))) (m-(i+1)) (cs.drop ((i+1)*5)):=by
  have:=(XC.tail (k:=i+1) (.inr ⟨b,off,cap,pre,ZG,h1,rfl,h3,h4,h5,h6,h7⟩:XC o t 24 5 h (ab (U ⟨b,off,ae⟩) m cap) m cs) nT).sl;rw[bA,XL]at this;exact this
 have nl:(cs.drop ((i+1)*5)).length=(m-(i+1))*5:=by rw[aU,h5,bf]
 refine GL (E:=24) (n:=5) (m:=i) (k:=m-(i+1)) (cs:=cs.take (i*5)) aB cc Zgy xm ZW h4.symm aac src (bc.2 fun x hx=>bc.1 XW x (bG hx)) nT (by rw[am,aU,h5,<-bf];have:(m-(i+1))*5<=(m-i)*5:=a7 _ nT;omega) ?_;obtain⟨g,hg⟩:=ZN (h.setIfInBounds b (Z (pre++((cs.take (i*5)++cs.drop ((i+1)*5))++(cs.drop (i*5)++ZG).drop ((m-(i+1))*5))).toArray 24 (0,0)):Hp);rw[<-hg];have kg:Kp (fun u=>u=t) o h o g:=by rw[hg];exact (Kp.refl d (fun u=>u=t)).set h1 rfl _
 have gb:=ZQ (o:=Z (pre++((cs.take (i*5)++cs.drop ((i+1)*5))++(cs.drop (i*5)++ZG).drop ((m-(i+1))*5))).toArray 24 (0,0)) h3;rw[<-hg]at gb;have e9:i+(m-(i+1))=m-1:=nT;have f1:((m-1:Nat):Int)<=m:=nT;have f2:(0:Int)<=((m-1:Nat):Int):=nT;have f3:cap≠m-1:=nT;have f4:(((m-1:Nat):Int)).toNat=m-1:=nT;have f5:(0:Int)<=m:=nT;have f6:((m-1:Nat):Int)<=cap:=nT;rw[e9];simp only[go_sem,e3,f1,f2,f3,f4,f5,f6];have tl:((cs.drop (i*5)++ZG).drop ((m-(i+1))*5)).length=5+(O ZG):=by
  rw[aU,am,aU,h5];have:(m-(i+1))*5+5=m*5-i*5:=by rw[<-bf,<-br];congr 1;omega
  omega
 obtain⟨tail,ht⟩:=ZN ((cs.drop (i*5)++ZG).drop ((m-(i+1))*5));rw[<-ht]at gb tl;obtain⟨body,iJ⟩:=ZN (cs.take (i*5)++cs.drop ((i+1)*5));have bl:(O body)=(m-1)*5:=by
  rw[iJ,am,a5,nl,h5,bd H5,<-cd];congr 1
 rw[<-iJ]at gb ⊢;have gb2:g[b]? = U (Z ((pre++body)++(tail.take 5++tail.drop 5)).toArray 24 (0,0)):=by
  rw[a4,a0];exact gb
 have e10:m-(m-1)=1:=nT;rw[e10];refine Kq (E:=24) (n:=5) (k:=1) aB xm rfl rfl gb2 (by rw[am,h4,bl]) aac ?_;intro new jq;simp only[go_sem];have kk:=kg.set h1 rfl (Z ((pre++body)++(new++tail.drop 5)).toArray 24 (0,0));refine⟨.inr ⟨b,off,cap,pre,new++tail.drop 5,h1,rfl,?_,h4,bl,?_,nT⟩,kk⟩
 .rw[ZQ gb2,a0]
 .rw[am,jq,a5,aU,tl,h6];have:(cap-(m-1))*5=(cap-m)*5+5:=by rw[<-br];congr 1;omega
  omega
theorem cQ(h:Hp)(o:Ow)(t:Tg)(v:al)(m i:Nat)(cs:List al)(s:XC o t 134 14 h v m cs)(d:Vx o h)(XW:cs.all YD=true)(hi:i<m)(hm:m<=4611686018427387904):
  Zd ao T 71 #[v,Q J i,Q J ((i:Int)+1)] h fun v' h'=>XC o t 134 14 h' v' (m-1) (cs.take (i*14)++cs.drop ((i+1)*14))/\Kp (fun u=>u=t) o h o h':=by
 rcases s with⟨⟨p,rfl⟩,rfl,rfl⟩|⟨b,off,cap,pre,ZG,h1,rfl,h3,h4,h5,h6,h7⟩
 .omega
 refine Zd.XT [_,_,_] Tryz.func71 ?_;have e1:(i:Int)<=m:=nT;have e2:(i:Int)+1<=m:=nT;have e3:(m:Int)<=cap:=nT;have e4:(i:Int)≠i+1:=nT;have e5:((i:Int)+1).toNat=i+1:=nT;have e6:(0:Int)<=i+1:=nT;have e7:(i:Int)<=i+1:=nT;have e8:(i:Int)<=cap:=nT;have c0:cap≠0:=nT;simp only[go_sem,e1,e2,e3,e4,e5,e6,e7,e8];refine VS.z (h.size) [6] (.p 0 (.p 1 (.p 2 (.p 3 (.p 4 (.p 5 (.w 6 (.p 7 .nil)))))))) mixed uj ?_;simp only[go_sem,e1,e2,e3,e4,e5,e6,e7,e8,c0];have H5:i*14<=m*14:=a7 _ nT;have Zu2:(i+1)*14<=m*14:=a7 _ nT;have ue:m*14<=cap*14:=a7 _ h7;have ZW:h[b]? = U (Z (pre++(cs.take (i*14)++(cs.drop (i*14)++ZG))).toArray 134 (0,0)):=by
  rw[<-a0 (cj _ _),a4];exact h3
 have src:Sl 14 h (ab (if cap=i+1 then U ⟨b,off,ae⟩ else U ⟨b,off+(i+1)*14,ae⟩) (m-(i+1)) (cap-(i+1))) (m-(i+1)) (cs.drop ((i+1)*14)):=by
  have:=(XC.tail (k:=i+1) (.inr ⟨b,off,cap,pre,ZG,h1,rfl,h3,h4,h5,h6,h7⟩:XC o t 134 14 h (ab (U ⟨b,off,ae⟩) m cap) m cs) nT).sl;rw[bA,XL]at this;exact this
 have nl:(cs.drop ((i+1)*14)).length=(m-(i+1))*14:=by rw[aU,h5,bf]
 refine GL (E:=134) (n:=14) (m:=i) (k:=m-(i+1)) (cs:=cs.take (i*14)) lT b8 xo lW ZW h4.symm aac src (bc.2 fun x hx=>bc.1 XW x (bG hx)) nT (by rw[am,aU,h5,<-bf];have:(m-(i+1))*14<=(m-i)*14:=a7 _ nT;omega) ?_;obtain⟨g,hg⟩:=ZN (h.setIfInBounds b (Z (pre++((cs.take (i*14)++cs.drop ((i+1)*14))++(cs.drop (i*14)++ZG).drop ((m-(i+1))*14))).toArray 134 (0,0)):Hp);rw[<-hg];have kg:Kp (fun u=>u=t) o h o g:=by rw[hg];exact (Kp.refl d (fun u=>u=t)).set h1 rfl _
 have gb:=ZQ (o:=Z (pre++((cs.take (i*14)++cs.drop ((i+1)*14))++(cs.drop (i*14)++ZG).drop ((m-(i+1))*14))).toArray 134 (0,0)) h3;rw[<-hg]at gb;have e9:i+(m-(i+1))=m-1:=nT;have f1:((m-1:Nat):Int)<=m:=nT;have f2:(0:Int)<=((m-1:Nat):Int):=nT;have f3:cap≠m-1:=nT;have f4:(((m-1:Nat):Int)).toNat=m-1:=nT;have f5:(0:Int)<=m:=nT;have f6:((m-1:Nat):Int)<=cap:=nT;rw[e9];simp only[go_sem,e3,f1,f2,f3,f4,f5,f6];have tl:((cs.drop (i*14)++ZG).drop ((m-(i+1))*14)).length=14+(O ZG):=by
  rw[aU,am,aU,h5];have:(m-(i+1))*14+14=m*14-i*14:=by rw[<-bf,<-br];congr 1;omega
  omega
 obtain⟨tail,ht⟩:=ZN ((cs.drop (i*14)++ZG).drop ((m-(i+1))*14));rw[<-ht]at gb tl;obtain⟨body,iJ⟩:=ZN (cs.take (i*14)++cs.drop ((i+1)*14));have bl:(O body)=(m-1)*14:=by
  rw[iJ,am,a5,nl,h5,bd H5,<-cd];congr 1
 rw[<-iJ]at gb ⊢;have gb2:g[b]? = U (Z ((pre++body)++(tail.take 14++tail.drop 14)).toArray 134 (0,0)):=by
  rw[a4,a0];exact gb
 have e10:m-(m-1)=1:=nT;rw[e10];refine Kq (E:=134) (n:=14) (k:=1) lT lW rfl rfl gb2 (by rw[am,h4,bl]) aac ?_;intro new jq;simp only[go_sem];have kk:=kg.set h1 rfl (Z ((pre++body)++(new++tail.drop 14)).toArray 134 (0,0));refine⟨.inr ⟨b,off,cap,pre,new++tail.drop 14,h1,rfl,?_,h4,bl,?_,nT⟩,kk⟩
 .rw[ZQ gb2,a0]
 .rw[am,jq,a5,aU,tl,h6];have:(cap-(m-1))*14=(cap-m)*14+14:=by rw[<-br];congr 1;omega
  omega
section
variable {α:Type} {enc:α->List al} {n:Nat}
theorem Nh(Vl:∀x,(enc x).length=n)(l:List α)(i:Nat)(hi:i<=(O l)):(ZU enc l).take (i*n)=ZU enc (l.take i):=by
 have h1:(ZU enc (l.take i)).length=i*n:=by rw[UV Vl,a5,bd hi]
 have h2:ZU enc l=ZU enc (l.take i)++ZU enc (l.drop i):=by rw[<-Y6,a4]
 rw[h2,<-h1,List.take_left]
theorem Ry(Vl:∀x,(enc x).length=n)(l:List α)(i:Nat)(hi:i<=(O l)):(ZU enc l).drop (i*n)=ZU enc (l.drop i):=by
 have h1:(ZU enc (l.take i)).length=i*n:=by rw[UV Vl,a5,bd hi]
 have h2:ZU enc l=ZU enc (l.take i)++ZU enc (l.drop i):=by rw[<-Y6,a4]
 rw[h2,<-h1,List.drop_left]
theorem zH(Vl:∀x,(enc x).length=n)(l:List α)(i:Nat)(hi:i<(O l))(y:α):ZU enc (l.set i y)=(ZU enc l).take (i*n)++(enc y++(ZU enc l).drop ((i+1)*n)):=by
 rw[List.set_eq_take_append_cons_drop,if_pos hi,Y6,Nh Vl _ _ nT,Ry Vl _ _ nT];rfl
end
theorem Zdz(l:List Cm):(ZU Qo.C l).all YD=true:=by
 induction l with
 | nil=>rfl
 | cons x l ih=>rw[ZU,List.all_append,ih];rfl
theorem SU{j:Nat}(hj:j<(O l))(q:Cm->Bool):(l.take (j+1)).filter q=(l.take j).filter q++if q l[j]=true then [l[j]] else []:=by
 rw[Y1 l j hj,List.filter_append]
 congr 1
 cases h:q l[j]<;>simp[h]
theorem cR{x:Cm}{i:Nat}(h:Rx l x=i):i<(O l)/\(l.take i).filter (fun y=>decide (y≠x))=l.take i/\l[i]? = U x:=by
 unfold Rx at h;split at h
 .rename_i hm;have hi:l.idxOf x=i:=nT;have h1:l.idxOf x<(O l):=ba hm;refine⟨nT,?_,?_⟩
  .rw[bR];intro y hy;obtain⟨k,hk,rfl⟩:=bg hy;rw[a5]at hk;rw[List.getElem_take];have:=bo (p:=(· == x)) (xs:=l) (i:=k) (show k<List.findIdx (· == x) l by rw[show List.findIdx (· == x) l=l.idxOf x from rfl];omega)
   simpa using this
  .rw[<-hi,a8 h1,b0 h1]
 .omega
theorem cU(h:Hp)(o:Ow)(t:Tg)(v:al)(l:List Cm)(bx:Nat)(x:Cm)(s:Wu o t h v l)(d:Vx o h)(hb:Ya o h bx (Z x.C.toArray 24))(hl:(O l)<=4611686018427387904):
  Zd ao T 129 #[v,IS bx] h fun v' h'=>Wu o t h' v' (l.filter fun y=>decide (y≠x))/\Kp (fun u=>u=t) o h o h':=by
 have ts:Ts Qo.C 5 h v l:=⟨s.sl⟩
 obtain⟨p,c,rfl,XI⟩:=Q2 ts;refine Zd.XT [_,_] Tryz.func129 ?_;unfold IS T6;simp only[go_sem];refine (Fz T h _ l bx x ts hb.2 hl).use ?_;rintro _ h1 ⟨rfl,b1⟩;have k1:Kp (fun u=>u=t) o h o h1:=Kp.GK d b1 _;by_cases hm:x∈l
 case neg=>
  have e:Rx l x = -1:=by unfold Rx;rw[if_neg hm]
  have e2:(l.filter fun y=>decide (y≠x))=l:=by
   rw[bR];intro y hy;simpa using fun q=>hm (by rw[<-q];exact hy)
  simp only[go_sem,e,e2];exact⟨Wu.Ze (S:=fun _=>False) s (Kp.GK d b1 _) id,k1⟩
 obtain⟨i0,PK⟩:∃i:Nat,Rx l x=i:=⟨l.idxOf x,by unfold Rx;rw[if_pos hm]⟩
 obtain⟨hi,hf,hx⟩:=cR PK;rcases s with⟨⟨q,h1'⟩,h2',h3'⟩|⟨b,off,cap,pre,ZG,o1,hv,o3,o4,o5,o6,o7⟩
 .omega
 simp only[Value.slice.injEq]at hv;obtain⟨rfl,_,rfl⟩:=hv;have i1:¬((i0:Nat):Int) = -1:=nT;simp only[go_sem,PK,i1];obtain⟨q,hq⟩:∃q:Cm->Bool,q=fun y=>decide ¬y=x:=⟨_,rfl⟩
 have hq':(fun y=>decide (y≠x))=q:=by rw[hq]
 have hqx:∀y,q y=decide ¬y=x:=fun y=>by rw[hq]
 rw[hq']at hf;rw[<-hq];have fJ:l[i0]=x:=by rw[a8 hi]at hx;exact Option.some.inj hx
 have sl:(O l)<=c:=o7;have el:∀L:List Cm,(ZU Qo.C L).length=(O L)*5:=fun L=>UV (n:=5) LO L;refine VS.Yk (fun F g=>F 0=ab (U ⟨b,off,ae⟩) (O l) c/\F 1=IS bx/\Kp (fun u=>u=t) o h o g/\∃(i j:Nat) (L:List Cm),F 5=Q J i/\F 6=Q J j/\j<=(O l)/\i<j/\(O L)=(O l)/\L.take i=(l.take j).filter q/\L.drop j=l.drop j/\i=((l.take j).filter q).length /\
   g[b]? = U (Z (pre++(ZU Qo.C L++ZG)).toArray 24 (0,0)))
  (fun F _=>(O l)-(vi (F 6)).toNat) rfl ⟨rfl,rfl,k1,i0,i0+1,l,rfl,?_,nT,nT,rfl,?_,rfl,?_,b1.get (Za o3) o3⟩ ?_
 .show Value.int J _=_
  congr 1
 .rw[SU hi,hf,fJ,hqx,if_neg uK,be]
 .rw[SU hi,hf,fJ,hqx,if_neg uK,be,a5];omega
 rintro F g ⟨f0,f1,kg,i,j,L,f5,f6,hj,uc,hL,hLi,hLj,AK,gb⟩;unfold IS T6 at f1;simp only[cg]at f1;have gl:=Za gb;by_cases ZS:j<(O l)
 .have Z7:(j:Int)<(O l):=nT;have hjL:L[j]? = l[j]?:=by
   have:=congrArg (fun z=>z[0]?) hLj
   simpa using this
  have fS:j<(O L):=nT;have hjE:L[j]=l[j]:=by
   rw[a8 fS,a8 ZS]at hjL;exact Option.some.inj hjL
  have ow:XC o t 24 5 g (ab (U ⟨b,off,ae⟩) (O L) c) (O L) (ZU Qo.C L):=.inr ⟨b,off,c,pre,ZG,o1,rfl,gb,o4,el L,by rw[hL];exact o6,nT⟩;obtain⟨p2,c2,bP,Es⟩:=Q2 (⟨ow.sl⟩:Ts Qo.C 5 g _ L);obtain⟨bb,oo,pH,_,hr⟩:=Es (by intro e;rw[e]at fS;simp at fS);subst pH;simp only[Value.slice.injEq,Option.some.injEq,Addr.mk.injEq]at bP;obtain⟨⟨rfl,rfl,_⟩,_,rfl⟩:=bP;have r1:rd g ⟨b,off+j*5,ae⟩ 5=U (l[j]).C:=by rw[hr j fS,hjE]
  simp only[go_sem,f0,f1,f5,f6,Z7,r1];have bxg:=hb.Ze kg;have bxl:bx≠g.size:=by have:=Za bxg.2;omega
  refine (D2 T _ bx x l[j] (by rw[ZI (Za bxg.2)];exact bxg.2)).use ?_;rintro _ g1 ⟨rfl,b1'⟩;have bp:Zj g.size g g1:=(Zj.push (a6 _) _).trans (b1'.mono uK);have kg1:Kp (fun u=>u=t) o h o g1:=kg.Yz bp;have gb1:=bp.get gl gb;have Zu6:g1[g.size]? = U (Z (l[j]).C.toArray 24):=b1'.get uK Zc;have yr:rd g1 ⟨g.size,0,ae⟩ 5=U (l[j]).C:=Zz Zu6 rfl;have fs:=SU ZS q;have hd1:∀L':List Cm,L'.drop j=l.drop j->L'.drop (j+1)=l.drop (j+1):=fun L' h=>by
   rw[<-bQ,<-bQ,h]
  by_cases hxj:l[j]=x
  .have fs':(l.take (j+1)).filter q=(l.take j).filter q:=by rw[fs,hqx,if_neg (by simp[hxj]),be]
   simp only[go_sem,hxj,f0,f1,f5,f6];refine⟨⟨f0,f1,kg1,i,j+1,L,f5,rfl,ZS,nT,hL,by rw[fs'];exact hLi,hd1 L hLj,by rw[fs'];exact AK,gb1⟩,?_⟩;simp only[vi,Zq,↓reduceIte,f6];omega
  .have fs':(l.take (j+1)).filter q=(l.take j).filter q++[l[j]]:=by rw[fs,hqx,if_pos (by simp[hxj])]
   have i0':(0:Int)<=i:=nT;have i1':(i:Int)<(O l):=nT;have hiL:i<(O L):=nT;have w1:=Yd gb1 (off+i*5) (l[j]).C;have eL:Y8 (pre++(ZU Qo.C L++ZG)) (off+i*5) (l[j]).C=pre++(ZU Qo.C (L.set i l[j])++ZG):=by
    have e1:ZU Qo.C L=(ZU Qo.C L).take (i*5)++(((ZU Qo.C L).drop (i*5)).take 5++(ZU Qo.C L).drop ((i+1)*5)):=by
     have:(ZU Qo.C L).drop ((i+1)*5)=((ZU Qo.C L).drop (i*5)).drop 5:=by rw[bQ];congr 1;omega
     rw[this,a4,a4]
    have hle:(i+1)*5<=(ZU Qo.C L).length:=by rw[el];omega
    rw[zH LO L i hiL]
    conv=>lhs;rw[e1]
    have e2:pre++(((ZU Qo.C L).take (i*5)++(((ZU Qo.C L).drop (i*5)).take 5++(ZU Qo.C L).drop ((i+1)*5)))++ZG)=(pre++(ZU Qo.C L).take (i*5))++(((ZU Qo.C L).drop (i*5)).take 5++((ZU Qo.C L).drop ((i+1)*5)++ZG)):=by simp only[a0]
    rw[e2,Sf (by rw[am,o4,a5];omega) (by rw[a5,aU,LO];omega)];simp only[a0]
   rw[eL,if_pos ⟨by rw[am,am,o4,el,LO];omega,zE _⟩]at w1;simp only[go_sem,hxj,f0,f1,f5,f6,yr,i0',i1',w1];refine⟨⟨f0,f1,kg1.set o1 rfl _,i+1,j+1,L.set i l[j],rfl,rfl,ZS,nT,by rw[cf,hL],?_,?_,?_,ZQ gb1⟩,?_⟩
   .rw[Y1 _ i (by rw[cf];exact hiL),List.take_set_of_le (a6 _),List.getElem_set_self,fs',<-hLi]
   .refine hd1 _ ?_;rw[<-hLj,List.drop_set_of_lt nT]
   .rw[fs',am,<-AK];rfl
   .simp only[vi,Zq,↓reduceIte,f6];omega
 .have Xv:¬(j:Int)<(O l):=nT;obtain rfl:j=(O l):=nT;rw[List.take_length]at hLi AK;have hiL:i<=(O L):=nT;have gb2:g[b]? = U (Z ((pre++ZU Qo.C (L.take i))++(ZU Qo.C (L.drop i)++ZG)).toArray 24 (0,0)):=by
   rw[<-Nh LO L i hiL,<-Ry LO L i hiL];have:(pre++(ZU Qo.C L).take (i*5))++((ZU Qo.C L).drop (i*5)++ZG)=pre++(ZU Qo.C L++ZG):=by
    rw[a0,<-a0 (cj _ _),a4]
   rw[this];exact gb
  have tl:(ZU Qo.C (L.take i)).length=i*5:=by rw[el,a5,bd hiL]
  simp only[go_sem,f0,f5,f6,Xv];refine Kq (E:=24) (n:=5) (k:=(O l)-i) aB xm rfl rfl gb2 (by rw[am,o4,tl]) (by rw[el,aU,hL]) ?_;intro new jq;have i2:(i:Int)<=c:=nT;simp only[go_sem,i2,f0,f5];have e:(ZU Qo.C (L.take i))=ZU Qo.C (l.filter q):=by rw[hLi]
  refine⟨.inr ⟨b,off,c,pre,new++ZG,o1,by rw[<-AK],?_,o4,el _,?_,nT⟩,kg.set o1 rfl _⟩
  .rw[ZQ gb2,<-e,a0]
  .rw[am,jq,el,aU,o6,hL,<-AK,<-cd];congr 1;omega
@[go_sem] theorem Zu7(x:Vt):Xa [U J,U J,U J,U J,U J,U J,U J,U J] (Zv x)=true:=rfl
@[go_sem] theorem Zu8(x y:Vt):leq (Zv x) (Zv y)=decide (x=y):=by
 obtain⟨a,⟨b,c⟩,d,e,f,g,k⟩:=x;obtain⟨a',⟨b',c'⟩,d',e',f',g',k'⟩:=y;unfold Zv;rw[bw];simp[leq,ceq,Vt.mk.injEq,and_assoc]
@[go_sem] theorem Zp6(x:Yn):Xa [U J,U J] (Qz x)=true:=rfl
@[go_sem] theorem Zp7(x y:Yn):leq (Qz x) (Qz y)=decide (x=y):=by
 obtain⟨a,b⟩:=x;obtain⟨a',b'⟩:=y;unfold Qz;rw[bw];simp[leq,ceq,Yn.mk.injEq]
@[go_sem] theorem ZmC(x:Vt):(Zv x).length=8:=rfl
theorem FA{l:List Vt}(s:Ts Zv 8 h v l):∃p c,v=ab p (O l) c/\(l≠[]->∃b o,p=U ⟨b,o,ae⟩/\b<h.size/\∀i (hi:i<(O l)),rd h ⟨b,o+i*8,ae⟩ 8=U (Zv l[i])):=by
 obtain⟨p,c,hv,hh⟩:=s.open ZmC Iw;refine⟨p,c,hv,fun Y4=>?_⟩;obtain⟨b,o,h1,h2,h3⟩:=hh Y4;exact⟨b,o,h1,h2,fun i hi=>(h3 i hi).rd (by simp[Zv]) rfl⟩
theorem jy(h:Hp)(v:al)(l:List Vt)(x:Vt)(s:Ts Zv 8 h v l)(hl:(O l)<=4611686018427387904):
  Zd ao T 132 #[v,a3 (Zv x).toArray] h fun v' h'=>(∃i:Int,v'=Q J i/\(0<=i↔x∈l))/\Zj h.size h h':=by
 obtain⟨p,c,rfl,XI⟩:=FA s;refine Zd.XT [_,_] Tryz.func132 ?_;simp only[go_sem];obtain⟨h1,Xm⟩:=ZN (h.push (Z (Zv x).toArray 132):Hp);have b1:Zj h.size h h1:=by rw[Xm];exact Zj.push (a6 _) _
 have x1:h1[h.size]? = U (Z (Zv x).toArray 132):=by rw[Xm];exact Zc
 rw[<-Xm];clear Xm;refine VS.Yk (fun F g=>g=h1/\F 0=ab p (O l) c/\F 3=aw (U ⟨h.size,0,ae⟩)/\F 7=Q J (O l)/\∃i:Nat,i<=(O l)/\F 8=Q J i/\∀j (hj:j<(O l)),j<i->l[j]≠x)
  (fun F _=>(O l)-(vi (F 8)).toNat) rfl ⟨rfl,rfl,rfl,rfl,0,nT,rfl,fun j hj q=>by omega⟩ ?_
 rintro F g ⟨rfl,f0,f3,f7,i,hi,f8,Jc⟩;by_cases ZS:i<(O l)
 .have Z7:(i:Int)<(O l):=nT;obtain⟨bb,oo,rfl,T5,Bo⟩:=XI (by intro e;rw[e]at ZS;simp at ZS);have r1:rd g ⟨bb,oo+i*8,ae⟩ 8=U (Zv l[i]):=by rw[Um b1 (by exact T5)];exact Bo i ZS
  have r0:rd g ⟨h.size,0,ae⟩ 8=U (Zv x):=Zz x1 rfl;simp only[go_sem,f0,f3,f7,f8,Z7];refine VS.q mixed uj ?_;simp only[go_sem,f0,f3,f7,f8,Z7,r1,r0];by_cases q:l[i]=x
  .rw[q];simp only[go_sem,b1];exact⟨_,rfl,fun _=>q▸bk ZS,fun _=>by omega⟩
  .have q':¬x=l[i]:=fun e=>q e.symm;simp only[go_sem,q',f0,f3,f7,f8];refine⟨⟨rfl,f0,f3,f7,i+1,ZS,rfl,fun j hj Sa=>?_⟩,?_⟩
   .by_cases e:j=i
    .subst e;exact q
    .exact Jc j hj nT
   .simp only[vi,Zq,↓reduceIte,f8];omega
 .have Xv:¬(i:Int)<(O l):=nT;have hx:x ∉ l:=fun hm=>by obtain⟨j,hj,he⟩:=bg hm;exact Jc j hj nT he
  simp only[go_sem,f7,f8,Xv,b1,hx];exact⟨-1,rfl,fun q=>by omega,fun q=>q.elim⟩
theorem E8(h:Hp)(v:al)(l:List Vt)(x:Vt)(s:Ts Zv 8 h v l)(hl:(O l)<=4611686018427387904):
  Zd ao T 110 #[v,a3 (Zv x).toArray] h fun v' h'=>v'=aq (decide (x∈l))/\Zj h.size h h':=by
 obtain⟨p,c,rfl,XI⟩:=FA s;refine Zd.XT [_,_] Tryz.func110 ?_;simp only[go_sem];refine (jy T _ _ l x (s.Yz ((Zj.refl _ _).add _)) hl).use ?_;rintro _ h2 ⟨⟨i,rfl,hi⟩,b2⟩;have b:Zj h.size h h2:=((Zj.refl _ _).add _).trans (b2.mono uK);simp only[go_sem,hi,b]
theorem LQ(h:Hp)(a b:Yn):Zd ao T 90 #[a3 (Qz a).toArray,a3 (Qz b).toArray] h fun v' h'=>v'=aq (decide (ZE b a))/\Zj h.size h h':=by
 refine Zd.XT [_,_] Tryz.func90 ?_;unfold Qz;by_cases q1:b.r<a.r
 .have e:ZE b a:=.inl q1;simp only[go_sem,q1,e]
  (repeat' (first|exact Zj.refl _ _|assumption|refine Zj.add ?_ _|refine Zj.Zs ?_ aaa _|refine Zj.trans aab ?_))
 .by_cases q2:a.r=b.r
  .by_cases q3:b.n<a.n
   .have e:ZE b a:=.inr ⟨q2.symm,q3⟩;simp only[go_sem,q1,q2,q3,e]
    (repeat' (first|exact Zj.refl _ _|assumption|refine Zj.add ?_ _|refine Zj.Zs ?_ aaa _|refine Zj.trans aab ?_))
   .have e:¬ZE b a:=fun h=>by rcases h with h|⟨_,h⟩<;>omega
    simp only[go_sem,q1,q2,q3,e]
    (repeat' (first|exact Zj.refl _ _|assumption|refine Zj.add ?_ _|refine Zj.Zs ?_ aaa _|refine Zj.trans aab ?_))
  .have e:¬ZE b a:=fun h=>by rcases h with h|⟨h,_⟩<;>omega
   simp only[go_sem,q1,q2,e]
   (repeat' (first|exact Zj.refl _ _|assumption|refine Zj.add ?_ _|refine Zj.Zs ?_ aaa _|refine Zj.trans aab ?_))
theorem H6(h:Hp)(n:Nat)(hn:n<=1000000000000):Zd ao T 107 #[Q J n] h fun v' h'=>v'=aq (decide (5<2*n))/\h'=h:=by
 refine Zd.XT [_] Tryz.func107 ?_;have e:((5:Int)<2*(n:Int))=(5<2*n):=by apply propext;omega
 simp only[go_sem,e]
theorem Wu.ts{t:Tg}(s:Wu o t h v l):Ts Qo.C 5 h v l:=⟨XC.sl s⟩
theorem KM{T:World}{K:al->Hp->Prop}{ty:TypeId}{t:Tg}{x:Cm}{bx:Nat}{cb:Array Bool}(s:Wu o t h v l)(d:Vx o h)(hb:h[bx]? = U (Z x.C.toArray 24))(hr:(O l)<=1000000000000)(H:∀p c o' h',Wu o' t h' (ab p ((O l)+1) c) (l++[x])->Kp (fun u=>u=t) o h o' h'->K (ab p ((O l)+1) c) h'):
  PY ao T .append #[55,55] ty cb [v,ab (U ⟨bx,0,ae⟩) 1 1] K h:=by
 have src:Sl 5 h (ab (U ⟨bx,0,ae⟩) 1 1) 1 x.C:=⟨_,1,rfl,rfl,fun _=>⟨bx,0,rfl,fun i hi=>by
  rw[Zl hb,YW,Nat.zero_add];exact a8 hi⟩⟩
 refine QT (E:=24) (n:=5) (bytes:=40) (k:=1) aB cc Zgy xm rfl ZkO s d src (zE x) nT nT ?_;intro v' o' h' w k _;obtain⟨p,c,rfl,_⟩:=w.ZO;refine H p c o' h' ?_ k;unfold Wu;rw[Y6,Tq,am];exact w
def ZhE(i:Nat)(t:Tg):Prop:=t=.ZV i\/t=.Zr i
theorem zI(h:Hp)(o:Ow)(wb i nb:Nat)(a:NA)(n:Nd)(x:Cm)(d:Vx o h)(N:Z5 o h wb i nb a n)(hq:n.Zr.length<=1000000000000)(hl:n.Zw.length<=1000000000000):
  Zd ao T 66 #[Zx nb,Sv x] h fun v' h'=>∃o' a',Kp (ZhE i) o h o' h'/\Z5 o' h' wb i nb a' (add n x):=by
 have TU:=Za N.ZW.2;have R:=ZP N.ZW.2 N.pt.store.len;refine Zd.XT [_,_] Tryz.func66 ?_;unfold Zx Sv;have e1:nb≠h.size:=nT;simp only[go_sem];obtain⟨h1,Xm⟩:=ZN (h.push (Z x.C.toArray 24):Hp);have k1:Kp WL o h o h1:=by rw[Xm];exact Yu d _
 have x1:Ya o h1 h.size (Z x.C.toArray 24):=⟨d _ (a6 _),by rw[Xm];exact Zc⟩
 rw[<-Xm];have N1:=N.Zn k1;clear Xm;have R1:=ZP N1.ZW.2 N1.pt.store.len;have Q3:=Za N1.ZW.2;have hs1:=Za x1.2;have r1:rd h1 ⟨h.size,0,ae⟩ 5=U x.C:=Zz x1.2 rfl;refine VS.z (h1.size) [13] (.p 0 (.p 1 (.p 2 (.q 3 (.q 4 (.s 5 (.p 6 (.p 7 (.p 8 (.p 9 (.p 10 (.q 11 (.q 12 (.w 13 (.p 14 (.p 15 .nil)))))))))))))))) mixed uj ?_;simp only[go_sem,R1.Zr,Q3,r1,hs1];refine (SQ T h1 _ n.Zr x N1.pt.Zr.ts nT).use ?_;rintro _ h2 ⟨rfl,b2⟩;by_cases q1:x∈n.Zr
 .have e:add n x=n:=by unfold add;rw[if_pos (.inl q1)]
  simp only[go_sem,q1,b2,e];exact⟨o,a,(Z0 k1).Yz b2,N1.Zn (ZX k1.Yp b2)⟩
 simp only[go_sem,q1,b2,R1.Zw,Q3,r1,hs1];have k2:=ZX k1.Yp b2;refine (SQ T h2 _ n.Zw x (N1.Zn k2).pt.Zw.ts nT).use ?_;rintro _ h3 ⟨rfl,b3⟩;have b13:Zj h1.size h1 h3:=b2.trans (b3.mono b2.size);have k3:=ZX k1.Yp b13;by_cases q2:x∈n.Zw
 .have e:add n x=n:=by unfold add;rw[if_pos (.inr q2)]
  simp only[go_sem,q2,b13,e];exact⟨o,a,(Z0 k1).Yz b13,N1.Zn k3⟩
 have e:add n x = { n with Zr:=n.Zr++[x] }:=by unfold add;rw[if_neg (fun q=>q.elim q1 q2)]
 simp only[go_sem,q2,b13,e];have N3:=N1.Zn k3;have x3:=x1.Ze k3;have R3:=ZP N3.ZW.2 N3.pt.store.len;have Mw:=Za N3.ZW.2;have hs3:=Za x3.2;have r3:rd h3 ⟨h.size,0,ae⟩ 5=U x.C:=Zz x3.2 rfl;refine VS.z (h3.size) [7,10] (.p 0 (.p 1 (.p 2 (.p 3 (.q 4 (.q 5 (.s 6 (.w 7 (.p 8 (.p 9 (.w 10 .nil))))))))))) mixed uj ?_;simp only[go_sem,R3.Zr,Mw,r3,hs3];have k4:=Yu k3.Yp (Z x.C.toArray 24);have N4:=N3.Zn k4;refine KM (l:=n.Zr) N4.pt.Zr k4.Yp Zc hq ?_;intro p c o5 h5 w5 k5;have b5:=N4.ZW.Ze k5 Hy;have W5:=XH b5.2 N4.pt.store.len;have w:=W5.Zr (ab p (n.Zr.length+1) c) rfl;simp only[go_sem,w];exact⟨o5,_,(((Z0 k1).Yz b13).push _).trans (k5.mono fun u q=>.inr q) |>.set b5.1 (.inl rfl) _,(N4.pt.DZ k5 w5).put k5.Yp b5⟩
def Wv(i:Nat)(t:Tg):Prop:=t=.world\/t=.ZA\/t=.ZV i\/t=.Zh i\/t=.Zw i\/t=.Zr i\/t=.Zi i
theorem zK{β:Type}:∀(l:List (Int × β)) (ks:List Int),ks.Nodup->(∀k∈ks,(Yg l k).isSome=true)->(O ks)<=(O l):=by
 intro l
 induction l with
 | nil=>
  intro ks _ h
  cases ks with
  | nil=>simp
  | cons k ks=>have:=h k uK;simp[Yg]at this
 | cons x l ih=>
  intro ks hn h;obtain⟨a,v⟩:=x;have h1:(ks.erase a).length<=(O l):=ih _ (hn.erase a) fun k hk=>by
   have NE:=(List.Nodup.mem_erase_iff hn).1 hk;have:=h k NE.2;unfold Yg at this;rw[if_neg (fun e=>NE.1 e.symm)]at this;exact this
  have h2:(O ks)<=(ks.erase a).length+1:=by
   rw[List.length_erase];split<;>omega
  simp only[List.length_cons];omega
theorem FB{β:Type}(l:List (Int × β))(a m:Nat)(h:∀j,j<m->(Yg l ((a+j:Nat):Int)).isSome=true):m<=(O l):=by
 have:=zK l ((bn m).map fun j=>((a+j:Nat):Int)) ?_ ?_
 .simpa using this
 .rw[List.nodup_iff_pairwise_ne,List.pairwise_map];exact (List.nodup_range (n:=m)).imp fun {x y} hxy he=>hxy nT
 .intro k hk;simp only[List.mem_map,List.mem_range]at hk;obtain⟨j,hj,rfl⟩:=hk;exact h j hj
theorem mN(h:Hp)(cs:List al)(s:LM cs)(x:Cm):Zd ao T 19 #[a3 cs.toArray,Sv x] h fun v' h'=>v'=.tuple #[a3 (Wh cs x).toArray,a3 #[Q J (Wp cs x),Q J (Ru cs x)],Q J (UO cs x)]/\Zj h.size h h':=by
 refine (Fa T h cs x.k x.c x.s x.n x.v s.fit s.num s.yes).mono ?_;rintro v' h' ⟨H,b⟩;refine⟨?_,b⟩;rw[H];unfold doL Wh Wp Ru UO JK;by_cases e:OB cs x.k x.c x.s x.n x.v=0
 .rw[if_pos e,if_pos e,if_pos e,if_pos e,e]
 .rw[if_neg e,if_neg e,if_neg e,if_neg e]
theorem LM.zL(h:Xa JO cs=true):LM cs:=⟨h,Mr h,OD h⟩
theorem LM.do(s:LM cs)(x:Cm):LM (Wh cs x):=by
 obtain⟨D,a,b,h1,h2,_⟩:=mH s.fit x;refine LM.zL ?_;unfold doL at h1;unfold Wh UO JK;by_cases e:OB cs x.k x.c x.s x.n x.v=0
 .rw[if_pos e]at h1 ⊢;simp only[List.cons.injEq,Value.agg.injEq,Array.mk.injEq]at h1;rw[h1.1];exact h2
 .rw[if_neg e]at h1 ⊢;simp only[List.cons.injEq,Value.agg.injEq,Array.mk.injEq]at h1;rw[h1.1];exact h2
theorem IT{T:World}{K:al->Hp->Prop}{ty:TypeId}{t:Tg}{l:List PS}{x:PS}{bx:Nat}{cb:Array Bool}(s:XC o t 58 5 h v (O l) (ZU Mu l))(d:Vx o h)(hb:h[bx]? = U (Z (Mu x).toArray 58))(hr:(O l)<=1000000000000)(H:∀p c o' h',XC o' t 58 5 h' (ab p ((O l)+1) c) (l++[x]).length (ZU Mu (l++[x]))->Kp (fun u=>u=t) o h o' h'->K (ab p ((O l)+1) c) h'):
  PY ao T .append #[40,40] ty cb [v,ab (U ⟨bx,0,ae⟩) 1 1] K h:=by
 have src:Sl 5 h (ab (U ⟨bx,0,ae⟩) 1 1) 1 (Mu x):=⟨_,1,rfl,rfl,fun _=>⟨bx,0,rfl,fun i hi=>by
  rw[Zl hb,YW,Nat.zero_add];exact a8 hi⟩⟩
 refine QT (E:=58) (n:=5) (bytes:=40) (k:=1) ZkT Tryz.underlying40 Zr4 Zr6 rfl Zr5 s d src rfl nT nT ?_;intro v' o' h' w k _;obtain⟨p,c,rfl,_⟩:=w.ZO;refine H p c o' h' ?_ k;rw[Y6,Tq,am];exact w
theorem ZY.mO{o1:Ow}{h1:Hp}{wb:Nat}{nb:Nat->Nat}{a:WA}{fl:List YF}{Yw:Nat->Int}{ZA zM:List PS}(W:ZY o h wb nb a fl Yw ZA)(k:Kp (fun t=>t=.ZA) o h o1 h1)(hv:XC o1 .ZA 58 5 h1 v (O zM) (ZU Mu zM)){e:Option Hp}(w:e=U (h1.setIfInBounds wb (Z (X4 Yw { a with ZA:=v }).toArray 96))):
  ∃g,e=U g/\ZY o1 g wb nb { a with ZA:=v } fl Yw zM/\Kp (fun t=>t=.world) o1 h1 o1 g:=by
 have b:=W.ZW.Ze k Hy;have kk:Kp (fun t=>t=.world) o1 h1 o1 (h1.setIfInBounds wb (Z (X4 Yw { a with ZA:=v }).toArray 96)):=(Kp.refl k.Yp (fun t=>t=.world)).set b.1 rfl _;exact⟨_,w,⟨⟨b.1,ZQ b.2⟩,(W.Zb.Ze k Hy).Ze kk Hy,(W.Zo.Ze k Hy).Ze kk Hy,hv.Ze kk Hy⟩,kk⟩
def mP:Option al->Nat
 | some (ab _ l _)=>l
 | _=>0
set_option maxHeartbeats 1000000 in
theorem FC(h:Hp)(o:Ow)(wb i nb:Nat)(YM:Nat->Nat)(a:NA)(n:Nd)(Xt:WA)(fl:List YF)(Yw:Nat->Int)(ZA:List PS)(s:Int)(x:Cm)(d:Vx o h)(N:Z5 o h wb i nb a n)(W:ZY o h wb YM Xt fl Yw ZA)(hk:n.Zh.length<=100000000000)(hl:n.Zw.length<=100000000000)(ht:(O ZA)<=100000000000)(hq:n.Zr.length<=1000000000000)(hw:n.Zi.length<=1000000000000):
  Zd ao T 108 #[Zx wb,Zx nb,Q J s,Sv x] h fun v' h'=>∃o' a' Jv,Kp (Wv i) o h o' h'/\Z5 o' h' wb i nb a' (X8 n s x).n/\ZY o' h' wb YM Jv fl Yw (ZA++(X8 n s x).ts):=by
 have TU:=Za N.ZW.2;have BS:=Za W.ZW.2;refine Zd.XT [_,_,_,_] Tryz.func108 ?_;unfold Zx Sv;simp only[go_sem];obtain⟨h1,Xm⟩:=ZN (h.push (Z x.C.toArray 24):Hp);have k1:Kp WL o h o h1:=by rw[Xm];exact Yu d _
 have x1:Ya o h1 h.size (Z x.C.toArray 24):=⟨d _ (a6 _),by rw[Xm];exact Zc⟩
 rw[<-Xm];have N1:=N.Zn k1;have W1:=W.Zn k1;clear Xm;have R1:=ZP N1.ZW.2 N1.pt.store.len;have Q3:=Za N1.ZW.2;have hs1:=Za x1.2;have r1:rd h1 ⟨h.size,0,ae⟩ 5=U x.C:=Zz x1.2 rfl;refine VS.z (h1.size) [6] (.p 0 (.p 1 (.p 2 (.q 3 (.p 4 (.q 5 (.w 6 .nil))))))) mixed (by kernel_rfl) ?_;simp only[go_sem,R1.Zh,Q3,r1,hs1];have km:=Qa (K:=fun _ _=>True) (x:=a3 x.C.toArray) (n:=s) Rv N1.pt.Zh.2 (P:=ao);rw[Qa Rv N1.pt.Zh.2];have k2:Kp (fun t=>t=.Zh i) o h1 o (h1.setIfInBounds a.Zh (Jm (ins (VC Sv n.Zh) s (a3 x.C.toArray)))):=(Kp.refl k1.Yp (fun t=>t=.Zh i)).set N1.pt.Zh.1 rfl _;have m2:U6 o (.Zh i) (h1.setIfInBounds a.Zh (Jm (ins (VC Sv n.Zh) s (a3 x.C.toArray)))) a.Zh (VC Sv (ins n.Zh s x)):=
  ⟨N1.pt.Zh.1,by rw[ZQ N1.pt.Zh.2,Of];rfl⟩
 have N2:Z5 o (h1.setIfInBounds a.Zh (Jm (ins (VC Sv n.Zh) s (a3 x.C.toArray)))) wb i nb a (Jd n s x):=⟨N1.ZW.Ze k2 (by intro e;cases e),N1.pt.rn k2 m2⟩
 have W2:=W1.Ze k2 (by rintro t rfl;simp[Tg.of]);have K2:Kp (Wv i) o h o (h1.setIfInBounds a.Zh (Jm (ins (VC Sv n.Zh) s (a3 x.C.toArray)))):=(Z0 k1).trans (k2.mono fun t q=>.inr (.inr (.inr (.inl q))));generalize (h1.setIfInBounds a.Zh (Jm (ins (VC Sv n.Zh) s (a3 x.C.toArray))))=h2 at *;clear km;unfold X8;obtain⟨L,hL⟩:=ZN ((Jd n s x).Zh.length);have hLb:L<=100000000001:=by
  rw[hL];unfold Jd;simp only[Mh];split<;>omega
 obtain⟨n0,C0⟩:=ZN (Jd n s x);rw[<-C0]at N2 hL ⊢;rw[<-hL];have hl0:n0.Zw.length<=100000000000:=by rw[C0];exact hl
 have hq0:n0.Zr.length<=1000000000000:=by rw[C0];exact hq
 have hw0:n0.Zi.length<=1000000000000:=by rw[C0];exact hw
 clear N1 W1 R1 Q3 hs1 r1 k2 m2 N W hk hl hq hw C0 k1 x1;simp only[go_sem];refine VS.Yk (fun F g=>F 0=aw (U ⟨wb,0,ae⟩)/\F 1=aw (U ⟨nb,0,ae⟩)/\∃o' a' Jv m ts f j,Kp (Wv i) o h o' g/\Z5 o' g wb i nb a' m/\ZY o' g wb YM Jv fl Yw (ZA++ts)/\f+j=L+1/\m.Zh=n0.Zh/\m.Zw.length=n0.Zw.length+j /\
   m.Zr.length<=1000000000000/\m.Zi.length<=1000000000000/\(O ts)<=j/\(∀j',j'<j->(Yg n0.Zh ((n0.Zw.length+j':Nat):Int)).isSome=true)/\(Ye (L+1) n0).1=(Ye f m).1/\(Ye (L+1) n0).2=ts++(Ye f m).2)
  (fun F g=>n0.Zw.length+L+2-mP (hc g ⟨nb,11,ae⟩)) rfl ⟨rfl,rfl,o,a,Xt,n0,[],L+1,0,K2,N2,by rw[be];exact W2,rfl,rfl,rfl,hq0,hw0,a6 _,fun j' h=>by omega,rfl,rfl⟩ ?_
 rintro F g ⟨f0,f1,o',a',Jv,m,ts,f,j,K,M,V,hf,lP,fI,hmq,hmw,hts,hjs,g1,g2⟩;have R:=ZP M.ZW.2 M.pt.store.len;have ZdA:=Za M.ZW.2;obtain⟨lp,lc,KN,hlc⟩:=XC.ZO M.pt.Zw;have mu:mP (hc g ⟨nb,11,ae⟩)=m.Zw.length:=by rw[R.Zw,KN];rfl
 rw[mu];have R11:=R.Zw;rw[KN]at R11;have lk:=fun (K:al->Hp->Prop)=>Y9 (K:=K) (n:=(m.Zw.length:Int)) (c:=true) Rv LJ M.pt.Zh.2;have SV:=fun (K:al->Hp->Prop) (x:Obj)=>Y9 (h:=g.push x) (K:=K) (n:=(m.Zw.length:Int)) (c:=true) Rv LJ ((ZI (Za M.pt.Zh.2)).trans M.pt.Zh.2);rw[Jl]at lk;simp only[Jl]at SV;simp only[go_sem,f0,f1]
 cases hx:Yg m.Zh (m.Zw.length:Int) with
 | none=>
  rw[hx]at lk;simp only[hx,Option.map_none,Option.getD_none,Option.isSome_none,↓reduceIte]at lk SV;have e:f≠0->Ye f m=(m,[]):=fun Y4=>by
   obtain⟨f',rfl⟩:∃f',f=f'+1:=⟨f-1,by omega⟩
   unfold Ye;rw[hx]
  have e':Ye f m=(m,[]):=by
   by_cases q:f=0
   .subst q;rfl
   .exact e q
  rw[e']at g1 g2;refine VS.mono (N:=fun F' g'=>Zj g.size g g'/\F' 9=aq false) ?_ ?_ (fun _ _ _ h=>h) (fun _ _ h=>h)
  .refine VS.z (g.size) [9,14] (.p 0 (.p 1 (.p 2 (.q 3 (.p 4 (.p 5 (.p 6 (.q 7 (.p 8 (.or 9 (.p 10 (.p 11 (.p 12 (.s 13 (.w 14 (.p 15 .nil)))))) (.s 13 (.w 9 (.p 10 (.p 11 (.p 12 (.w 14 (.p 15 .nil))))))))))))))))) mixed (by kernel_rfl) ?_;simp only[go_sem,f0,f1,R.Zh,R11,ZdA,lk,SV]
   repeat' (first|exact Zj.refl _ _|exact Zj.push (a6 _) _|refine ck ?_ ?_)
  .rintro F' g' ⟨b,f9⟩;simp only[go_sem,f9];rw[g1,g2,be];exact⟨o',a',Jv,K.Yz b,M.Zn (ZX K.Yp b),V.Zn (ZX K.Yp b)⟩
 | some y=>
  rw[hx]at lk;simp only[hx,bA,Option.getD_some,Option.isSome_some,↓reduceIte]at lk SV;refine VS.mono (N:=fun F' g'=>Zj g.size g g'/\F' 0=aw (U ⟨wb,0,ae⟩)/\F' 1=aw (U ⟨nb,0,ae⟩)/\F' 9=aq true/\F' 8=aw (U ⟨g.size,0,ae⟩)/\g'[g.size]? = U (Z y.C.toArray 24)) ?_ ?_ (fun _ _ _ h=>h) (fun _ _ h=>h)
  .refine VS.z (g.size) [9,14] (.p 0 (.p 1 (.p 2 (.q 3 (.p 4 (.p 5 (.p 6 (.q 7 (.p 8 (.or 9 (.p 10 (.p 11 (.p 12 (.s 13 (.w 14 (.p 15 .nil)))))) (.s 13 (.w 9 (.p 10 (.p 11 (.p 12 (.w 14 (.p 15 .nil))))))))))))))))) mixed (by kernel_rfl) ?_;simp only[go_sem,f0,f1,R.Zh,R11,ZdA,lk,SV,Sv];have gp:∀x:Obj,(g.push x)[g.size]? = U x:=fun x=>Zc
   repeat' (first|exact Zj.refl _ _|exact Zj.push (a6 _) _|exact gp _|refine ck ?_ ?_)
  .rintro F2 g2 ⟨b2,f20,f21,f29,f28,x2⟩;simp only[go_sem,f29];have kb:=ZX K.Yp b2;have M2:=M.Zn kb;have V2:=V.Zn kb;have bx2:Ya o' g2 g.size (Z y.C.toArray 24):=⟨K.Yp _ (a6 _),x2⟩
   have K2:=K.Yz b2;have Oo:=ZdA;clear R R11 lk SV ZdA mu;have R2:=ZP M2.ZW.2 M2.pt.store.len;have Ug:=Za M2.ZW.2;have hs2:=Za x2;have r2:rd g2 ⟨g.size,0,ae⟩ 5=U y.C:=Zz x2 rfl;refine VS.z (g2.size) [7,10] (.p 0 (.p 1 (.p 2 (.p 3 (.q 4 (.q 5 (.s 6 (.w 7 (.p 8 (.p 9 (.w 10 .nil))))))))))) mixed (by kernel_rfl) ?_;simp only[go_sem,f20,f21,f28,R2.Zw,Ug,hs2,r2];have k3:=Yu K2.Yp (Z y.C.toArray 24);refine KM (l:=m.Zw) (M2.Zn k3).pt.Zw k3.Yp Zc (by omega) ?_;intro p c o3 g3 w3 kk3;have k3':Kp (fun t=>t=.Zw i) o' g2 o3 g3:=(Z0 k3).trans kk3;have b3:=M2.ZW.Ze k3' (by intro e;cases e);have w:=(XH b3.2 M2.pt.store.len).Zw (ab p (m.Zw.length+1) c) rfl;simp only[go_sem,w];have M4:=(M2.pt.Zdx k3' w3).put k3'.Yp b3;have kn:Kp (fun t=>t=.ZV i) o3 g3 o3 (g3.setIfInBounds nb (X9 { m with Zw:=m.Zw++[y] } { a' with Zw:=ab p (m.Zw.length+1) c })):=(Kp.refl k3'.Yp (fun t=>t=.ZV i)).set b3.1 rfl _;have V4:=(V2.Ze k3' (by rintro t rfl;simp[Tg.of])).Ze kn (by rintro t rfl;simp[Tg.of]);have x4:=(bx2.Ze k3').Ze kn;have K4:Kp (Wv i) o h o3 (g3.setIfInBounds nb (X9 { m with Zw:=m.Zw++[y] } { a' with Zw:=ab p (m.Zw.length+1) c })):=
    (K2.trans (k3'.mono fun t q=>.inr (.inr (.inr (.inr (.inl q)))))).trans (kn.mono fun t q=>.inr (.inr (.inl q)))
   obtain⟨g4,Hw⟩:=ZN (g3.setIfInBounds nb (X9 m { a' with Zw:=ab p (m.Zw.length+1) c }));rw[show X9 { m with Zw:=m.Zw++[y] } { a' with Zw:=ab p (m.Zw.length+1) c } = X9 m { a' with Zw:=ab p (m.Zw.length+1) c } from rfl,<-Hw]at M4 V4 x4 K4;rw[<-Hw];clear Hw kn;have R4:=ZP M4.ZW.2 M4.pt.store.len;have Hx:=Za M4.ZW.2;have hs4:=Za x4.2;have r4:rd g4 ⟨g.size,0,ae⟩ 5=U y.C:=Zz x4.2 rfl;have call:=fun G=>mN T G m.store M4.pt.store y;have R4s:rd g4 ⟨nb,12,ae⟩ 40=U m.store:=R4.store;have hD:=(M4.pt.store.do y)
   have hD0:Wh ({ m with Zw:=m.Zw++[y] }:Nd).store y=Wh m.store y:=rfl;rw[hD0]at hD;obtain⟨D,hDe⟩:=ZN (Wh m.store y);obtain⟨E,hE⟩:=ZN (UO m.store y);obtain⟨c1,WE⟩:=ZN (Wp m.store y);obtain⟨c2,Es⟩:=ZN (Ru m.store y);rw[<-hDe]at hD;rw[<-hDe,<-hE,<-WE,<-Es]at call;have IU:=hD.len;have fL:=hD.one;unfold Sv at call;have Hd:=Z4 (zs:=Yy) (vs:=D) (by rw[IU];rfl);unfold Yy at Hd;simp only[rep,List.cons_append,bt]at Hd;have wA:∀(G:Hp) (k:Nat),G[k]? = U (Z Yy.toArray 52)->wr G ⟨k,0,ae⟩ D=U (G.setIfInBounds k (Z D.toArray 52)):=fun G k hx=>by
    rw[Yd hx 0 D,Z4 (by rw[IU];rfl),if_pos ⟨by rw[IU];simp[Yy,rep],fL⟩]
   have wB:∀(G:Hp) (k:Nat),G[k]? = U (Z [Q J 0,Q J 0].toArray 48)->wr G ⟨k,0,ae⟩ [Q J c1,Q J c2]=U (G.setIfInBounds k (Z [Q J c1,Q J c2].toArray 48)):=fun G k hx=>by
    rw[Yd hx 0 _];rfl
   have gl:∀(G:Hp) (X Y:Obj),((G.push X).push Y)[G.size]? = U X:=fun G X Y=>by rw[ZI (by simp),Zc]
   have gs:∀(G:Hp) (k:Nat) (X Y:Obj),((G.setIfInBounds k X).push Y)[G.size]? = U Y:=fun G k X Y=>by
    have:=Zc (h:=G.setIfInBounds k X) (o:=Y);rwa [Array.size_setIfInBounds]at this
   have gl':=gs;have gr:∀(G:Hp) (X Y:Obj),((G.push X).push Y)[G.size+1]? = U Y:=fun G X Y=>by
    have:=Zc (h:=G.push X) (o:=Y);rwa [a9]at this
   refine VS.mono (N:=fun F' g'=>Zj g4.size g4 g'/\F' 0=aw (U ⟨wb,0,ae⟩)/\F' 1=aw (U ⟨nb,0,ae⟩)/\F' 8=aw (U ⟨g.size,0,ae⟩)/\∃A B,F' 10=aw (U ⟨A,0,ae⟩)/\F' 11=aw (U ⟨B,0,ae⟩)/\g4.size<=A/\g4.size<=B/\g'[A]? = U (Z D.toArray 52)/\g'[B]? = U (Z [Q J c1,Q J c2].toArray 48)) ?_ ?_ (fun _ _ _ h=>h) (fun _ _ h=>h)
   .refine VS.z (g4.size) [5,12,13] (.p 0 (.p 1 (.p 2 (.q 3 (.q 4 (.or 5 (.p 6 (.p 7 (.p 8 (.p 9 (.or 10 (.s 11 (.w 12 (.w 13 (.p 14 .nil)))) (.s 11 (.s 10 (.w 12 (.w 13 (.p 14 .nil)))))))))) (.or 10 (.or 5 (.p 6 (.p 7 (.p 8 (.p 9 (.s 11 (.w 12 (.w 13 (.p 14 .nil)))))))) (.s 11 (.w 5 (.p 6 (.p 7 (.p 8 (.p 9 (.w 12 (.w 13 (.p 14 .nil)))))))))) (.s 11 (.or 5 (.p 6 (.p 7 (.p 8 (.p 9 (.s 10 (.w 12 (.w 13 (.p 14 .nil)))))))) (.s 10 (.w 5 (.p 6 (.p 7 (.p 8 (.p 9 (.w 12 (.w 13 (.p 14 .nil)))))))))))))))))) mixed (by kernel_rfl) ?_;simp only[go_sem,f20,f21,f28,R4s,Hx,hs4,r4]
    repeat' (first|with_reducible exact Zj.refl _ _|with_reducible exact Zj.push (by omega) _|with_reducible refine ck ?_ ?_)
    all_goals first
     | (refine (call g4).use ?_
        rintro _ g5 ⟨rfl,b5⟩;have s5:=b5.size;simp only[go_sem,b5,IU,fL,Hd];refine⟨⟨f20,f21,f28,_,_,rfl,rfl,s5,by omega,gl _ _ _,gr _ _ _⟩,⟨f20,f21,f28,_,_,rfl,rfl,by omega,s5,gr _ _ _,gl _ _ _⟩⟩)
     | (refine (call (g4.push (Z _ 52))).use ?_
        rintro _ g5 ⟨rfl,b5⟩;have s5:=b5.size;rw[a9]at s5;have B5:Zj g4.size g4 g5:=(Zj.push (a6 _) _).trans (b5.mono (by simp));have xA:=b5.get (k:=g4.size) (by simp) Zc;have PC:=wA _ _ xA;have zA:=Za xA;have gA:=ZQ (o:=Z D.toArray 52) xA;simp only[go_sem,B5,IU,fL,PC,zA];exact⟨f20,f21,f28,_,_,rfl,rfl,a6 _,by omega,by rw[ZI (by simpa using zA)];exact gA,gs _ _ _ _⟩)
     | (refine (call (g4.push (Z _ 48))).use ?_
        rintro _ g5 ⟨rfl,b5⟩;have s5:=b5.size;rw[a9]at s5;have B5:Zj g4.size g4 g5:=(Zj.push (a6 _) _).trans (b5.mono (by simp));have xB:=b5.get (k:=g4.size) (by simp) Zc;have FD:=wB _ _ xB;have zB:=Za xB;have gB:=ZQ (o:=Z [Q J c1,Q J c2].toArray 48) xB;simp only[go_sem,B5,IU,fL,FD,Hd,zB];exact⟨f20,f21,f28,_,_,rfl,rfl,by omega,a6 _,gl' _ _ _ _,by rw[ZI (by simpa using zB)];exact gB⟩)
     | (refine (call ((g4.push (Z _ 52)).push (Z _ 48))).use ?_
        rintro _ g5 ⟨rfl,b5⟩;have s5:=b5.size;rw[a9,a9]at s5;have B5:Zj g4.size g4 g5:=((Zj.push (a6 _) _).YU (by simp) _).trans (b5.mono (by simp;omega));have xA:=b5.get (k:=g4.size) (by simp;omega) (gl _ _ _);have xB:=b5.get (k:=g4.size+1) (by simp) (gr _ _ _);have PC:=wA _ _ xA;have zA:=Za xA;have KO:=(Y7 (o:=Z D.toArray 52) (show g4.size≠g4.size+1 by omega)).trans xB;have FD:=wB _ _ KO;have zB:=Za KO;simp only[go_sem,B5,IU,fL,PC,zA,FD,zB];exact⟨f20,f21,f28,_,_,rfl,rfl,by omega,by omega,(Y7 (by omega)).trans (ZQ xA),ZQ KO⟩)
     | (refine (call ((g4.push (Z _ 48)).push (Z _ 52))).use ?_
        rintro _ g5 ⟨rfl,b5⟩;have s5:=b5.size;rw[a9,a9]at s5;have B5:Zj g4.size g4 g5:=((Zj.push (a6 _) _).YU (by simp) _).trans (b5.mono (by simp;omega));have xB:=b5.get (k:=g4.size) (by simp;omega) (gl _ _ _);have xA:=b5.get (k:=g4.size+1) (by simp) (gr _ _ _);have PC:=wA _ _ xA;have zA:=Za xA;have KO:=(Y7 (o:=Z D.toArray 52) (show g4.size+1≠g4.size by omega)).trans xB;have FD:=wB _ _ KO;have zB:=Za KO;simp only[go_sem,B5,IU,fL,PC,zA,FD,zB];exact⟨f20,f21,f28,_,_,rfl,rfl,by omega,by omega,(Y7 (by omega)).trans (ZQ xA),ZQ KO⟩)
   .rintro F5 g5 ⟨b5,f50,f51,f58,A,B,f5A,f5B,hA,hB,yA,yB⟩;have D3:=ZX K4.Yp b5;have M5:=M4.Zn D3;have V5:=V4.Zn D3;have x5:=x4.Ze D3;have K5:=K4.Yz b5;have z5:=Za M5.ZW.2;have rA:rd g5 ⟨A,0,ae⟩ 40=U D:=Zz yA IU;obtain⟨g6,w6,M6,k6⟩:=Yh.write (n:={ m with Zw:=m.Zw++[y],store:=D }) { M5.pt with store:=hD } K5.Yp M5.ZW ((XH M5.ZW.2 M5.pt.store.len).store D IU fL);have V6:=V5.Ze k6 (by rintro t rfl;simp[Tg.of]);have x6:=x5.Ze k6;have K6:Kp (Wv i) o h o3 g6:=K5.trans (k6.mono fun t q=>.inr (.inr (.inl q)));have xB6:=(show Ya o3 g5 B _ from⟨K4.Yp _ (by omega),yB⟩).Ze k6;have R6:=ZP M6.ZW.2 IU;have z6:=Za M6.ZW.2;clear R4 R4s Hx hs4 r4 R2 Ug hs2 r2;simp only[go_sem,f50,f51,f58,f5A,f5B,rA,w6,IU,R6.Zr,z5];refine (cU T g6 o3 (.Zr i) _ m.Zr g.size y M6.pt.Zr K6.Yp x6 (by omega)).use ?_;rintro v7 g7 ⟨q7,k7⟩;obtain⟨p7,c7,rfl,_⟩:=XC.ZO q7;have b7:=M6.ZW.Ze k7 (by intro e;cases e);obtain⟨g8,w8,M8,k8⟩:=(M6.pt.DZ k7 q7).write k7.Yp b7 ((XH b7.2 IU).Zr (ab p7 _ c7) rfl);have z7:=Za b7.2;have V8:=(V6.Ze k7 (by rintro t rfl;simp[Tg.of])).Ze k8 (by rintro t rfl;simp[Tg.of]);have x8:=(x6.Ze k7).Ze k8;have xB8:=(xB6.Ze k7).Ze k8;have K8:Kp (Wv i) o h o3 g8:=(K6.trans (k7.mono fun t q=>.inr (.inr (.inr (.inr (.inr (.inl q))))))).trans (k8.mono fun t q=>.inr (.inr (.inl q)));have R8:=ZP M8.ZW.2 IU;have z8:=Za M8.ZW.2;simp only[go_sem,f50,f51,f58,w8,z7,R8.Zi];refine (Fz T g8 _ m.Zi g.size y M8.pt.Zi.ts x8.2 (by omega)).use ?_;rintro _ g9 ⟨rfl,b9⟩;have kb9:=ZX K8.Yp b9;have M9:=M8.Zn kb9;have V9:=V8.Zn kb9;have x9:=x8.Ze kb9;have xB9:=xB8.Ze kb9;have K9:=K8.Yz b9;have PB:∃f',f=f'+1:=⟨f-1,by
     have:f≠0:=fun q=>by
      subst q;have hj:j=L+1:=by omega
      have:=FB n0.Zh n0.Zw.length (L+2) fun j' hj'=>by
       by_cases q:j'<j
       .exact hjs j' q
       .have:j'=j:=by omega
        subst this;rw[<-fI,<-lP,hx];rfl
      rw[<-hL]at this;omega
     omega⟩
    obtain⟨f',rfl⟩:=PB;have lg:Ye (f'+1) m=((Ye f' (JZ m y)).1,WT m y++(Ye f' (JZ m y)).2):=by
     rw[Ye,hx]
    rw[lg]at g1 g2;have ZmE:∀j',j'<j+1->(Yg n0.Zh ((n0.Zw.length+j':Nat):Int)).isSome=true:=fun j' hj'=>by
     by_cases q:j'<j
     .exact hjs j' q
     .have:j'=j:=by omega
      subst this;rw[<-fI,<-lP,hx];rfl
    have fF:(m.Zr.filter fun z=>decide (z≠y)).length<=m.Zr.length:=List.length_filter_le _ _;have mono:∀(G:Hp) (nn:Nd) (aa:NA) (oo:Ow),Z5 oo G wb i nb aa nn->nn.Zw.length=m.Zw.length+1->n0.Zw.length+L+2-mP (hc G ⟨nb,11,ae⟩)<n0.Zw.length+L+2-m.Zw.length:=fun G nn aa oo H hh=>by
     have RR:=ZP H.ZW.2 H.pt.store.len;obtain⟨lp,lc,KN,hlc⟩:=XC.ZO H.pt.Zw;have:mP (hc G ⟨nb,11,ae⟩)=nn.Zw.length:=by rw[RR.Zw,KN];rfl
     rw[this,hh];omega
    by_cases hy:y∈m.Zi
    case neg=>
     have e1:Rx m.Zi y = -1:=by unfold Rx;rw[if_neg hy]
     have e2:WT m y=[]:=by unfold WT;rw[if_neg hy]
     have e3:m.Zi.erase y=m.Zi:=List.erase_of_not_mem hy;rw[e2]at g2;have e4:JZ m y = { m with Zw:=m.Zw++[y],store:=D,Zr:=m.Zr.filter (fun z=>decide (z≠y)) }:=by unfold JZ;rw[e3,<-hDe]
     rw[e4]at g1 g2;rw[bt]at g2;simp only[go_sem,e1];unfold XU;refine⟨⟨f50,f51,o3,_,Jv,_,ts,f',j+1,K9,M9,V9,by omega,lP,by simp[fI];omega,by simp only;omega,hmw,by omega,ZmE,g1,g2⟩,mono _ _ _ _ M9 (by simp)⟩
    have e1:0<=Rx m.Zi y:=(LP _ _).2 hy;have e5:Rx m.Zi y=(m.Zi.idxOf y:Nat):=by unfold Rx;rw[if_pos hy]
    obtain⟨r,hr⟩:=ZN (m.Zi.idxOf y);have hrl:r<m.Zi.length:=by rw[hr];exact ba hy
    rw[<-hr]at e5;have e2:WT m y=[⟨m.me,y.c,y.s,Wp m.store y,Ru m.store y⟩]:=by unfold WT;rw[if_pos hy]
    have e3:m.Zi.erase y=m.Zi.take r++m.Zi.drop (r+1):=by
     rw[List.erase_eq_eraseIdx_of_idxOf,List.eraseIdx_eq_take_drop_succ];exact hr.symm
    rw[e2]at g2;have R9:=ZP M9.ZW.2 IU;have z9:=Za M9.ZW.2;simp only[go_sem,e1,e5,f50,f51,f58,R9.Zi,z9];refine (cO T g9 o3 (.Zi i) _ m.Zi.length r _ M9.pt.Zi K9.Yp (Zdz _) hrl (by omega)).use ?_;rintro v10 g10 ⟨q10,rq⟩;have wl:(m.Zi.erase y).length=m.Zi.length-1:=by rw[e3,am,a5,aU];omega
    have Q10:Wu o3 (.Zi i) g10 v10 (m.Zi.erase y):=by
     unfold Wu;rw[wl,e3,Y6,<-Nh LO _ _ (by omega),<-Ry LO _ _ (by omega)];exact q10
    obtain⟨p10,c10,rfl,_⟩:=XC.ZO Q10;have b10:=M9.ZW.Ze rq (by intro e;cases e);obtain⟨g11,w11,M11,uB⟩:=(M9.pt.IR rq Q10).write rq.Yp b10 ((XH b10.2 IU).Zi (ab p10 _ c10) rfl);have z10:=Za b10.2;have V11:=(V9.Ze rq (by rintro t rfl;simp[Tg.of])).Ze uB (by rintro t rfl;simp[Tg.of]);have x11:=(x9.Ze rq).Ze uB;have ZmF:=(xB9.Ze rq).Ze uB;have K11:Kp (Wv i) o h o3 g11:=(K9.trans (rq.mono fun t q=>.inr (.inr (.inr (.inr (.inr (.inr q))))))).trans (uB.mono fun t q=>.inr (.inr (.inl q)));have R11:=ZP M11.ZW.2 IU;have z11:=Za M11.ZW.2;have U11:=XP V11.ZW.2;have Zvf:=Za V11.ZW.2;have rx1:hc g11 ⟨g.size,1,ae⟩=U (Q J y.c):=Zl x11.2;have rx2:hc g11 ⟨g.size,2,ae⟩=U (Q J y.s):=Zl x11.2;have rB:rd g11 ⟨B,0,ae⟩ 2=U [Q J c1,Q J c2]:=Zz ZmF.2 rfl;have Zvh:=Za x11.2;have Zvi:=Za ZmF.2;simp only[go_sem,w11,z10];refine VS.z (g11.size) [17,21] (.p 0 (.p 1 (.p 2 (.p 3 (.p 4 (.q 5 (.p 6 (.p 7 (.p 8 (.q 9 (.p 10 (.q 11 (.p 12 (.q 13 (.q 14 (.p 15 (.s 16 (.w 17 (.p 18 (.p 19 (.p 20 (.w 21 .nil)))))))))))))))))))))) mixed (by kernel_rfl) ?_;simp only[go_sem,f50,f51,f58,f5B,U11.ZA,R11.me,rx1,rx2,rB,z11,Zvf,Zvh,Zvi];have k12:=Yu K11.Yp (Z (Mu ⟨m.me,y.c,y.s,c1,c2⟩).toArray 58);have V12:=V11.Zn k12;refine IT (l:=ZA++ts) (x:=⟨m.me,y.c,y.s,c1,c2⟩) V12.ZA k12.Yp Zc (by rw[am];omega) ?_;intro p13 c13 o13 g13 q13 k13;have b13:=V12.ZW.Ze k13 (by intro e;cases e);obtain⟨g14,w14,V14,k14⟩:=V12.mO k13 q13 ((XP b13.2).Zfw (ab p13 _ c13) rfl);have z13:=Za b13.2;simp only[go_sem,w14,z13];have M14:=((M11.Zn k12).Ze k13 (by rintro t rfl;simp[Tg.of])).Ze k14 (by rintro t rfl;simp[Tg.of]);have K14:Kp (Wv i) o h o13 g14:=(((K11.trans (Z0 k12)).trans (k13.mono fun t q=>.inr (.inl q))).trans (k14.mono fun t q=>.inl q))
    have e4:JZ m y = { m with Zw:=m.Zw++[y],store:=D,Zr:=m.Zr.filter (fun z=>decide (z≠y)),Zi:=m.Zi.erase y }:=by unfold JZ;rw[<-hDe]
    rw[e4]at g1 g2;rw[<-WE,<-Es]at g2;obtain⟨ZHz,V15⟩:∃A,ZY o13 g14 wb YM A fl Yw (ZA++(ts++[⟨m.me,y.c,y.s,c1,c2⟩])):=⟨_,by rw[<-a0];exact V14⟩
    rw[<-a0]at g2;unfold XU;refine⟨⟨f50,f51,o13,_,_,_,ts++[⟨m.me,y.c,y.s,c1,c2⟩],f',j+1,K14,M14,V15,by omega,lP,by simp[fI];omega,by simp only;omega,by simp only;omega,by simp;omega,ZmE,g1,g2⟩,mono _ _ _ _ M14 (by simp)⟩
def ZmG(o:Ow)(h:Hp)(wb:Nat)(YM:Nat->Nat)(fl:List YF)(Yw:Nat->Int)(ZA:List PS)(h':Hp):Prop:=
 ∃o' Jv,Kp mL o h o' h'/\ZY o' h' wb YM Jv fl Yw ZA
theorem mQ(h:Hp)(o:Ow)(wb nb:Nat)(YM:Nat->Nat)(me:Nat)(Xt:WA)(fl:List YF)(Yw:Nat->Int)(ZA:List PS)(b3 b4 b5 b7:Nat)(l:YF)(w5 w:al)(vs:List Vt)(d:Vx o h)(W:ZY o h wb YM Xt fl Yw ZA)(Hv:hc h ⟨nb,0,ae⟩=U (Q J me))(TU:nb<h.size)(Y5:(O fl)<=1000000000000)(x3:Ya o h b3 (Z [Zx wb].toArray 90))(x4:Ya o h b4 (Z [Zx nb].toArray 97))(x5:Ya o h b5 (Z (XN l w5).toArray 134))(x7:Ya o h b7 (Z [w].toArray 102))(iv:TO o h w vs):
  Zd ao T 104 #[Zx b3,Zx b4,Zx b5,Zx b7] h fun v' h'=>ZmG o h wb YM (fl++[⟨1,me,l.Jp,l.b,SM,vs⟩]) Yw ZA h':=by
 obtain⟨pw,cw,rfl⟩:=iv.ZO;refine Zd.XT [_,_,_,_] Tryz.func104 ?_;unfold Zx;have r3:hc h ⟨b3,0,ae⟩=U (Zx wb):=Zl x3.2;have r4:hc h ⟨b4,0,ae⟩=U (Zx nb):=Zl x4.2;have r5:hc h ⟨b5,1,ae⟩=U (Q J l.Jp):=Zl x5.2;have r6:rd h ⟨b5,3,ae⟩ 2=U [Q J l.b.r,Q J l.b.n]:=by rw[YJ x5.2 (by simp[XN])];rfl
 have r7:hc h ⟨b7,0,ae⟩=U (ab pw (O vs) cw):=Zl x7.2;simp only[go_sem,r3,r4,r5,r6,r7];refine (V0 T h o wb nb YM me Xt fl Yw ZA l.Jp ⟨1,0,0,l.b,SM,vs⟩ _ d W Hv TU iv Y5).use ?_;rintro v' h' ⟨o',Jv,k,_,W'⟩;simp only[go_sem];exact⟨o',Jv,k,W'⟩
theorem mR(h:Hp)(o:Ow)(wb nb:Nat)(YM:Nat->Nat)(me:Nat)(Xt:WA)(fl:List YF)(Yw:Nat->Int)(ZA:List PS)(b3 b4 b5:Nat)(l:YF)(w5:al)(d:Vx o h)(W:ZY o h wb YM Xt fl Yw ZA)(Hv:hc h ⟨nb,0,ae⟩=U (Q J me))(TU:nb<h.size)(Y5:(O fl)<=1000000000000)(x3:Ya o h b3 (Z [Zx wb].toArray 90))(x4:Ya o h b4 (Z [Zx nb].toArray 97))(x5:Ya o h b5 (Z (XN l w5).toArray 134)):
  Zd ao T 109 #[Zx b3,Zx b4,Zx b5] h fun v' h'=>ZmG o h wb YM (fl++[⟨3,me,l.Jp,Jg,l.v,[]⟩]) Yw ZA h':=by
 refine Zd.XT [_,_,_] Tryz.func109 ?_;unfold Zx;have r3:hc h ⟨b3,0,ae⟩=U (Zx wb):=Zl x3.2;have r4:hc h ⟨b4,0,ae⟩=U (Zx nb):=Zl x4.2;have r5:hc h ⟨b5,1,ae⟩=U (Q J l.Jp):=Zl x5.2;have r6:rd h ⟨b5,5,ae⟩ 8=U (Zv l.v):=by rw[YJ x5.2 (by simp[XN])];rfl
 unfold Zv at r6;simp only[go_sem,r3,r4,r5,r6];refine (V0 T h o wb nb YM me Xt fl Yw ZA l.Jp ⟨3,0,0,Jg,l.v,[]⟩ (ab ae 0 0) d W Hv TU (Im.nil _ _ _ _) Y5).use ?_;rintro v' h' ⟨o',Jv,k,_,W'⟩;simp only[go_sem];exact⟨o',Jv,k,W'⟩
def ZhI(i:Nat)(t:Tg):Prop:=t=.world\/t=.Zo\/t=.ZV i\/t=.ZF i\/t=.XV i
theorem ZdC(h:Hp)(o:Ow)(wb i nb:Nat)(YM:Nat->Nat)(Xt:WA)(fl:List YF)(Yw:Nat->Int)(ZA:List PS)(a:NA)(n:Nd)(acc:UH)(to:Int)(b:Yn)(vs:List Vt)(b6 b4 b9:Nat)(u:al)(d:Vx o h)(N:Z5 o h wb i nb a n)(W:ZY o h wb YM Xt fl Yw ZA)(Y5:(O fl)<=1000000000000)(x6:OJ o h b6 acc)(x4:Ya o h b4 (Z [Zx nb].toArray 97))(x9:Ya o h b9 (Z [u].toArray 1))(hu:zy o h wb nb u to b vs):
  Zd ao T 106 #[Zx b6,Zx b4,Zx b9] h fun v' h'=>∃o' a' Jv,Kp (ZhI i) o h o' h'/\Z5 o' h' wb i nb a' { n with Zm:=acc }/\ZY o' h' wb YM Jv (fl++[⟨1,n.me,to,b,SM,vs⟩]) Yw ZA:=by
 obtain⟨wa,xa,ia⟩:=x6;obtain⟨pa,ca,rfl⟩:=ia.ZO;obtain⟨b3,iL,b5,b7,l,w5,w,rfl,y3,y4,y5,rfl,rfl,y7,iv⟩:=hu;have TU:=Za N.ZW.2;refine Zd.XT [_,_,_] Tryz.func106 ?_;unfold Zx;have r4:hc h ⟨b4,0,ae⟩=U (Zx nb):=Zl x4.2;have r6:rd h ⟨b6,0,ae⟩ 3=U [Q J acc.p.r,Q J acc.p.n,ab pa (O acc.l) ca]:=Zz xa.2 rfl;obtain⟨g1,w1,N1,k1⟩:=Yh.write (a:={ a with XO:=ab pa (O acc.l) ca }) (n:={ n with Zm:=acc }) { N.pt with XO:=ia } d N.ZW ((XH N.ZW.2 N.pt.store.len).Zm acc.p.r acc.p.n (ab pa (O acc.l) ca) rfl);have W1:=W.Ze k1 (by rintro t rfl;simp[Tg.of]);have x91:=x9.Ze k1;have r9:hc g1 ⟨b9,0,ae⟩=U (T6 104 [b3,iL,b5,b7]):=Zl x91.2;unfold T6 at r9;simp only[cg]at r9;unfold Zx at r4 r9;simp only[go_sem,r4,r6,w1,TU,r9];have R1:=ZP N1.ZW.2 N1.pt.store.len;refine (mQ T g1 o wb nb YM n.me Xt fl Yw ZA b3 iL b5 b7 l w5 w vs k1.Yp W1 R1.me (Za N1.ZW.2) Y5 (y3.Ze k1) (y4.Ze k1) (y5.Ze k1) (y7.Ze k1) (iv.Ze k1)).use ?_;rintro v' h' ⟨o',Jv,k,W'⟩;simp only[go_sem];exact⟨o',_,Jv,(k1.mono fun t q=>.inr (.inr (.inl q))).trans (k.mono fun t q=>q.elim .inl fun q=>.inr (.inl q)),N1.Ze k (by rintro t (rfl|rfl)<;>simp[Tg.of]),W'⟩
theorem ZdD(h:Hp)(o:Ow)(wb i nb:Nat)(YM:Nat->Nat)(Xt:WA)(fl:List YF)(Yw:Nat->Int)(ZA:List PS)(a:NA)(n:Nd)(acc:UH)(to:Int)(x:Vt)(b6 b4 b9:Nat)(u:al)(d:Vx o h)(N:Z5 o h wb i nb a n)(W:ZY o h wb YM Xt fl Yw ZA)(Y5:(O fl)<=1000000000000)(x6:OJ o h b6 acc)(x4:Ya o h b4 (Z [Zx nb].toArray 97))(x9:Ya o h b9 (Z [u].toArray 1))(hu:zC o h wb nb u to x):
  Zd ao T 112 #[Zx b6,Zx b4,Zx b9] h fun v' h'=>∃o' a' Jv,Kp (ZhI i) o h o' h'/\Z5 o' h' wb i nb a' { n with Zm:=acc }/\ZY o' h' wb YM Jv (fl++[⟨3,n.me,to,Jg,x,[]⟩]) Yw ZA:=by
 obtain⟨wa,xa,ia⟩:=x6;obtain⟨pa,ca,rfl⟩:=ia.ZO;obtain⟨b3,iL,b5,l,w5,rfl,y3,y4,y5,rfl,rfl⟩:=hu;have TU:=Za N.ZW.2;refine Zd.XT [_,_,_] Tryz.func112 ?_;unfold Zx;have r4:hc h ⟨b4,0,ae⟩=U (Zx nb):=Zl x4.2;have r6:rd h ⟨b6,0,ae⟩ 3=U [Q J acc.p.r,Q J acc.p.n,ab pa (O acc.l) ca]:=Zz xa.2 rfl;obtain⟨g1,w1,N1,k1⟩:=Yh.write (a:={ a with XO:=ab pa (O acc.l) ca }) (n:={ n with Zm:=acc }) { N.pt with XO:=ia } d N.ZW ((XH N.ZW.2 N.pt.store.len).Zm acc.p.r acc.p.n (ab pa (O acc.l) ca) rfl);have W1:=W.Ze k1 (by rintro t rfl;simp[Tg.of]);have x91:=x9.Ze k1;have r9:hc g1 ⟨b9,0,ae⟩=U (T6 109 [b3,iL,b5]):=Zl x91.2;unfold T6 at r9;simp only[cg]at r9;unfold Zx at r4 r9;simp only[go_sem,r4,r6,w1,TU,r9];have R1:=ZP N1.ZW.2 N1.pt.store.len;refine (mR T g1 o wb nb YM n.me Xt fl Yw ZA b3 iL b5 l w5 k1.Yp W1 R1.me (Za N1.ZW.2) Y5 (y3.Ze k1) (y4.Ze k1) (y5.Ze k1)).use ?_;rintro v' h' ⟨o',Jv,k,W'⟩;simp only[go_sem];exact⟨o',_,Jv,(k1.mono fun t q=>.inr (.inr (.inl q))).trans (k.mono fun t q=>q.elim .inl fun q=>.inr (.inl q)),N1.Ze k (by rintro t (rfl|rfl)<;>simp[Tg.of]),W'⟩
theorem WX.ins{k:Int}{w:al}{vs:List Vt}(iv:TO o h w vs):∀{pv:List (Int × al)} {pr:List (Int × List Vt)},WX o h pv pr->WX o h (Go.V.ins pv k w) (Go.V.ins pr k vs):=by
 intro pv pr s
 induction s with
 | nil=>exact .cons ⟨rfl,iv⟩ .nil
 | @cons a b l m CT _ ih=>
  obtain⟨a1,a2⟩:=a;obtain⟨b1,b2⟩:=b;obtain⟨rfl,h2⟩:=CT;show az _ (if a1=k then (a1,w) :: l else (a1,a2) :: Go.V.ins l k w) (if a1=k then (a1,vs) :: m else (a1,b2) :: Go.V.ins m k vs);by_cases q:a1=k
  .rw[if_pos q,if_pos q];exact .cons ⟨rfl,iv⟩ aab
  .rw[if_neg q,if_neg q];exact .cons ⟨rfl,h2⟩ ih
theorem WX.length{pv:List (Int × al)}{pr:List (Int × List Vt)}(s:WX o h pv pr):(O pv)=(O pr):=by
 induction s with
 | nil=>rfl
 | cons _ _ ih=>simp[ih]
theorem WX.Yg{pv:List (Int × al)}{pr:List (Int × List Vt)}(s:WX o h pv pr)(k:Int):(Go.V.Yg pv k=ae/\Go.V.Yg pr k=ae)\/∃w vs,Go.V.Yg pv k=U w/\Go.V.Yg pr k=U vs/\TO o h w vs:=by
 induction s with
 | nil=>exact .inl ⟨rfl,rfl⟩
 | @cons a b l m CT _ ih=>
  obtain⟨a1,a2⟩:=a;obtain⟨b1,b2⟩:=b;obtain⟨rfl,h2⟩:=CT;unfold Go.V.Yg;by_cases q:a1=k
  .rw[if_pos q,if_pos q];exact .inr ⟨_,_,rfl,rfl,h2⟩
  .rw[if_neg q,if_neg q];exact ih
theorem Xx.mS{i:Nat}{ra:RA}{r:Xw}(s:Xx o i h ra r)(d:Vx o h){k:Int}{w:al}{vs:List Vt}(iv:TO o h w vs):
  Kp (fun t=>t=.ZF i) o h o (h.setIfInBounds ra.pb (Jm (ins ra.pv k w)))/\Xx o i (h.setIfInBounds ra.pb (Jm (ins ra.pv k w))) { ra with pv:=ins ra.pv k w } { r with ZF:=ins r.ZF k vs }:=by
 have kk:Kp (fun t=>t=.ZF i) o h o (h.setIfInBounds ra.pb (Jm (ins ra.pv k w))):=(Kp.refl d (fun t=>t=.ZF i)).set s.ZF.1 rfl _;exact⟨kk,s.ZW.Ze kk Hy,⟨s.ZF.1,ZQ s.ZF.2⟩,WX.Ze (WX.ins iv s.OI) kk,s.ZT.Ze kk Hy,s.YZ.Ze kk Hy,s.Rw.Ze kk (fun _ e=>by cases e),s.keys⟩
theorem Yh.ru{wb i nb:Nat}{a:NA}{n:Nd}(s:Yh o h wb i nb a n)(k:Kp (fun t=>t=.XV i) o h o' h')(hp:n.Zp=ae):Yh o' h' wb i nb a n:=
 ⟨s.data.Ze k,s.XO.Ze k,s.Zg.Ze k (fun t ht=>by rcases ht with rfl|rfl|rfl|rfl|⟨z,rfl⟩<;>intro e<;>cases e),s.Zh.Ze k Hy,s.Zw.Ze k Hy,s.Zr.Ze k Hy,s.Zi.Ze k Hy,s.Zf.Ze k Hy,by
  have:=s.Zp;rw[hp]at this ⊢;exact this,s.store⟩
theorem IV{n:Nd}{a:NA}{ra ra':RA}(r:Option Xw)(h:a.Zg=U ra)(hb:ra'.rb=ra.rb):X9 { n with Zg:=r } { a with Zg:=U ra' } = X9 n a:=by
 unfold X9 VL;simp only[h,Mv,hb]
def Zvn(i:Nat)(t:Tg):Prop:=t=.ZV i\/t=.ZF i\/t=.XV i
theorem ZdE(h:Hp)(o:Ow)(wb i nb:Nat)(a:NA)(n:Nd)(acc:UH)(vs:List Vt)(cur:Bool)(v:al)(d:Vx o h)(N:Z5 o h wb i nb a n)(hp:n.Zp=ae)(hv:Zmz o h i nb a.Zg v acc vs cur):
  ∃b6 b4 b7 b5,v=T6 113 [b6,b4,b7,b5]/\Zd ao T 113 #[Zx b6,Zx b4,Zx b7,Zx b5] h fun v' h'=>∃o' a',Kp (Zvn i) o h o' h'/\Z5 o' h' wb i nb a' { n with Zm:=acc,Zg:=if cur=true then n.Zg.map (fun r=>{ r with ZF:=ins r.ZF n.me vs }) else n.Zg }:=by
 obtain⟨b6,b4,b7,b5,w,rb,rfl,⟨wa,xa,ia⟩,x4,x7,iv,x5,ZmH⟩:=hv;obtain⟨pa,ca,rfl⟩:=ia.ZO;obtain⟨pw,cw,rfl⟩:=iv.ZO;refine⟨b6,b4,b7,b5,rfl,?_⟩;have TU:=Za N.ZW.2;refine Zd.XT [_,_,_,_] Tryz.func113 ?_;unfold Zx;have r4:hc h ⟨b4,0,ae⟩=U (Zx nb):=Zl x4.2;have r6:rd h ⟨b6,0,ae⟩ 3=U [Q J acc.p.r,Q J acc.p.n,ab pa (O acc.l) ca]:=Zz xa.2 rfl;obtain⟨g1,w1,N1,k1⟩:=Yh.write (a:={ a with XO:=ab pa (O acc.l) ca }) (n:={ n with Zm:=acc }) { N.pt with XO:=ia } d N.ZW ((XH N.ZW.2 N.pt.store.len).Zm acc.p.r acc.p.n (ab pa (O acc.l) ca) rfl);unfold Zx at r4;simp only[go_sem,r4,r6,w1,TU];have y4:=x4.Ze k1;have y5:=x5.Ze k1;have y7:=x7.Ze k1;have q4:hc g1 ⟨b4,0,ae⟩=U (Zx nb):=Zl y4.2;have q5:hc g1 ⟨b5,0,ae⟩=U (Zx rb):=Zl y5.2;have q7:hc g1 ⟨b7,0,ae⟩=U (ab pw (O vs) cw):=Zl y7.2;unfold Zx at q4 q5;have l4:=Za y4.2;have l5:=Za y5.2;have l7:=Za y7.2;have R1:=ZP N1.ZW.2 N1.pt.store.len;have lnb:=Za N1.ZW.2;have iv1:=iv.Ze k1;refine VS.z (g1.size) [9] (.q 0 (.p 1 (.p 2 (.q 3 (.q 4 (.p 5 (.p 6 (.q 7 (.q 8 (.w 9 .nil)))))))))) mixed uj ?_
 cases cur with
 | true=>
  obtain⟨ra,KP,rfl⟩:=ZmH;have hR:=N1.pt.Zg;have ry:({ a with XO:=ab pa (O acc.l) ca }:NA).Zg=U ra:=KP;rw[ry]at hR
  cases hr:n.Zg with
  | none=>rw[show ({ n with Zm:=acc }:Nd).Zg=ae from hr]at hR;exact hR.elim
  | some r=>
   rw[show ({ n with Zm:=acc }:Nd).Zg=U r from hr]at hR;have hR:Xx o i g1 ra r:=hR;have rr:hc g1 ⟨ra.rb,2,ae⟩=U (.map (U ra.pb)):=Zl hR.ZW.2;have fM:=Za hR.ZW.2;simp only[go_sem,q4,q5,q7,l4,l5,l7,lnb,R1.me,rr,fM];rw[Qa IP hR.ZF.2];simp only[go_sem];obtain⟨k2,R2⟩:=hR.mS k1.Yp (k:=n.me) iv1;have k2':Kp (JV i) o g1 o _:=k2.mono fun t q=>.inr (.inl q);refine⟨o,{ ({ a with XO:=ab pa (O acc.l) ca }:NA) with Zg:=U { ra with pv:=ins ra.pv n.me (ab pw (O vs) cw) } },(k1.mono fun t q=>.inl q).trans (k2.mono fun t q=>.inr (.inl q)),?_,?_⟩
   .have:=N1.ZW.Ze k2 Hy;rw[<-IV (U { r with ZF:=ins r.ZF n.me vs }) ry (ra':={ ra with pv:=ins ra.pv n.me (ab pw (O vs) cw) }) rfl]at this;exact this
   .exact Yh.U7 N1.pt k2' ry rfl R2
 | false=>
  obtain⟨cs,pb,pv,y1,y2,y3⟩:=ZmH;have z1:=y1.Ze k1 Hy;have z3:=y3.Ze k1 Hy;have rr:hc g1 ⟨rb,2,ae⟩=U (.map (U pb)):=by rw[S8 z1.2];exact y2
  have fM:=Za z1.2;simp only[go_sem,q4,q5,q7,l4,l5,l7,lnb,R1.me,rr,fM];rw[Qa IP z3.2];simp only[go_sem];have k2:Kp (fun t=>t=.XV i) o g1 o (g1.setIfInBounds pb (Jm (ins pv n.me (ab pw (O vs) cw)))):=(Kp.refl k1.Yp (fun t=>t=.XV i)).set z3.1 rfl _;exact⟨o,_,(k1.mono fun t q=>.inl q).trans (k2.mono fun t q=>.inr (.inr q)),N1.ZW.Ze k2 Hy,N1.pt.ru k2 hp⟩
end Go.Proofs.YtdapjaalaomghaaGreatDoor

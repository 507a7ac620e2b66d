/- Part Mop. -/
import Derived.Test.YthlfaofofaphfaaGreatDoorOpn
import Derived.Test.YthlfaofofaphfaaGreatDoorMix
import Derived.Test.YthlfaofofaphfaaGreatDoorChw
import Derived.Test.YthlfaofofaphfaaGreatDoorPik
import Derived.Test.YthlfaofofaphfaaGreatDoorW28
open Go.Value renaming int→Q,slice→al,bool→aU,pointer→a0,agg→a5
open Go.IntKind renaming i64→J
open Go.Obj renaming cells→Z
open Go.Proofs.Tryz renaming prog→aI,underlying95→cc,underlying46→cd
open List renaming length→O,length_append→aw,length_drop→a3,append_assoc→a4,take_append_drop→a6,length_take→a7,getElem?_eq_getElem→ba,idxOf_lt_length_of_mem→bd,all_eq_true→be,append_nil→bg,getElem_of_mem→bk,getElem?_append_right→bn,getElem_mem→bo,range→br,not_of_lt_findIdx→bw,nil_append→bA,set_append_right→bG,mem_of_mem_drop→bR,drop_drop→bS,filter_eq_self→bT,getElem_idxOf→b8,length_set→cg,map→ch,all_cons→ck,take→cn
open Nat renaming le_refl→a8,mul_le_mul_right→a9,min_eq_left→bf,sub_mul→bh,succ_mul→bz,lt_of_lt_of_le→b0,add_mul→cf
open Option renaming map_some→bC,some→U,none→am
open Array renaming size_push→bc
open Bool renaming eq_iff_iff→bB
open And renaming intro→co
open Go renaming Value→au
namespace Go.Proofs.YthlfaofofaphfaaGreatDoor
open Go Go.V
set_option linter.unusedSimpArgs false
set_option linter.unusedVariables false
variable(T:World){cs:List au}{h h':Hp}{v:au}
deriving instance DecidableEq for Yw
deriving instance DecidableEq for Vt
deriving instance DecidableEq for J2
abbrev Cm:=J2
variable{l:List Cm}
def IB:Cm:=⟨0,0,0,0,0⟩
def J2.C(x:J2):List au:=QW x.k x.c x.s x.n x.v
def J2.err(x:J2):Int:=YE x.k x.c x.s x.n x.v
def Vt.cm(v:Vt):Cm:=⟨v.k,v.c,v.s,v.nm,v.v⟩
def QB(s:Int)(b:Yw)(x:Cm):Vt:=⟨s,b,x.k,x.c,x.s,x.n,x.v⟩
def Jj:Yw:=⟨0,0⟩
structure YF where
 Z7:Int
 Jq:Int
 to:Int
 b:Yw
 v:Vt
 vs:List Vt
structure Xw where
 b:Yw
 ZI:List (Int × List Vt)
 XM:Bool
 ZW:List (Int × Cm)
 Y5:List (Int × List (Int × Unit))
inductive LV where
 | VB (a:UC) (to:Int) (b:Yw) (vs:List Vt)
 | TC (a:UC) (to:Int) (v:Vt)
 | Zq (a:UC) (vs:List Vt) (cur:Bool)
structure Nd where
 me:Nat
 up:Bool
 data:List Nat
 YZ:Int
 Zq:UC
 YX:Yw
 Zh:Option Xw
 Zi:List (Int × Cm)
 ZB:List Cm
 store:List au
 Zx:List Cm
 Zj:List Cm
 Zg:List YF
 Zs:Option LV
 Ys:Int
structure Ps where
 ZV:Int
 c:Int
 s:Int
 code:Int
 val:Int
structure Wd where
 Zb:Nat->Nd
 Zp:List YF
 Yv:Nat->Int
 ZE:List Ps
structure Out where
 n:Nd
 ls:List YF
 ts:List Ps
def YB(n:Nd)(l:YF):Out:=
 if YG n.Zq.p n.Zq.l l.b≠0 then ⟨n,[⟨7,n.me,l.Jq,n.Zq.p,St,[]⟩],[]⟩
 else if n.Zq.p=l.b then ⟨n,[⟨1,n.me,l.Jq,l.b,St,n.Zq.l⟩],[]⟩
 else if Ji n.data n.YZ l.b≠0 then ⟨n,[],[]⟩
 else ⟨{ n with data:=n.data++YS (JL l.b),Zs:=U (.VB ⟨l.b,n.Zq.l⟩ l.Jq l.b n.Zq.l) },[],[]⟩
def asked(n:Nd)(l:YF):Out:=
 if Xj n.Zq.p n.Zq.l l.v≠0 then ⟨n,[⟨7,n.me,l.Jq,n.Zq.p,St,[]⟩],[]⟩
 else if l.v∈n.Zq.l then ⟨n,[⟨3,n.me,l.Jq,Jj,l.v,[]⟩],[]⟩
 else if QZ n.data n.YZ l.v≠0 then ⟨n,[],[]⟩
 else ⟨{ n with data:=n.data++YS (Up l.v),Zs:=U (.TC ⟨l.v.b,Jz n.Zq.l l.v⟩ l.Jq l.v) },[],[]⟩
def Fe(st:List au)(x:Cm):List au:=if U7 st x=0 then (X1 st x).cells else Y1
def Oi(st:List au)(x:Cm):Int:=if U7 st x=0 then (X1 st x).code else 0
def IC(st:List au)(x:Cm):Int:=if U7 st x=0 then (X1 st x).val else 0
def JU(n:Nd)(x:Cm):Nd:={ n with ZB:=n.ZB++[x],store:=Fe n.store x,Zx:=n.Zx.filter (fun y=>decide (y≠x)),Zj:=n.Zj.erase x }
def WJ(n:Nd)(x:Cm):List Ps:=if x∈n.Zj then [⟨n.me,x.c,x.s,Oi n.store x,IC n.store x⟩] else []
def Yg:Nat->Nd->Nd × List Ps
 | 0,n=>(n,[])
 | k+1,n=>match Yh n.Zi n.ZB.length with
  | none=>(n,[])
  | some x=>((Yg k (JU n x)).1,WJ n x++(Yg k (JU n x)).2)
def Jf(n:Nd)(s:Int)(x:Cm):Nd:={ n with Zi:=ins n.Zi s x }
def Jg(n:Nd)(s:Int)(x:Cm):Out:=
 ⟨(Yg ((Jf n s x).Zi.length+1) (Jf n s x)).1,[],(Yg ((Jf n s x).Zi.length+1) (Jf n s x)).2⟩
def ZcV(n:Nd)(r:Xw)(l:YF):Nd:={ n with Zh:=U { r with ZI:=ins r.ZI l.Jq l.vs } }
def Q2(r:Xw)(l:YF):List (Int × Unit):=ins ((Yh r.Y5 l.v.Zu).getD []) l.Jq ()
def Tq(n:Nd)(r:Xw)(l:YF):Nd:={ n with Zh:=U { r with Y5:=ins r.Y5 l.v.Zu (Q2 r l) } }
def Yl(n:Nd)(l:YF):Out:=
 match n.Zh with
 | none=>⟨n,[],[]⟩
 | some r=>
  if l.Z7=1 then (if l.b=r.b then ⟨ZcV n r l,[],[]⟩ else ⟨n,[],[]⟩)
  else if l.v.b≠r.b then ⟨n,[],[]⟩
  else if 5<2*(Q2 r l).length then Jg (Tq n r l) l.v.Zu l.v.cm
  else ⟨Tq n r l,[],[]⟩
def add(n:Nd)(x:Cm):Nd:=if x∈n.Zx\/x∈n.ZB then n else { n with Zx:=n.Zx++[x] }
def Xs(n:Nd)(l:YF):Nd:=if ZL n.YX l.b then { n with YX:=l.b } else n
def Qp(n:Nd)(l:YF):Out:=
 match Yh n.Zi l.v.Zu with
 | some x=>⟨Xs n l,[⟨6,n.me,l.Jq,Jj,QB l.v.Zu Jj x,[]⟩],[]⟩
 | none=>⟨Xs n l,[],[]⟩
def Zw(n:Nd)(l:YF):Out:=
 if l.Z7=0 then YB n l else if l.Z7=1\/l.Z7=3 then Yl n l else if l.Z7=2 then asked n l
 else if l.Z7=4 then ⟨add n l.v.cm,[],[]⟩ else if l.Z7=5 then Qp n l else if l.Z7=6 then Jg n l.v.Zu l.v.cm else ⟨Xs n l,[],[]⟩
def Yo(r:Xw):List (List Vt):=(br 5).map fun (m:Nat)=>(Yh r.ZI (m:Int)).getD []
def RM(l:List Vt):Int:=l.foldl (fun t v=>if t<v.Zu then v.Zu else t) (-1)
def Oj(LL:List (List Vt))(s:Int):Cm:=if Sc s LL.flatten=0 then (WF s LL.flatten).cm else IB
def JV(n:Nd)(LL:List (List Vt))(pr:List (Int × Cm))(s:Nat):List (Int × Cm):=if Yh n.Zi (s:Int)=am then ins pr (s:Int) (Oj LL s) else pr
def Wa(n:Nd)(r:Xw):Xw:=
 { r with ZW:=(List.range' n.ZB.length ((RM (Yo r).flatten+1).toNat-n.ZB.length)).foldl (JV n (Yo r)) r.ZW,XM:=true }
def Qe(n:Nd)(r:Xw)(x:Cm):Nat->Nat->Option Nat
 | 0,_=>am
 | k+1,s=>if Yh r.ZW (s:Int)=U x\/Yh n.Zi (s:Int)=U x then am
  else if Yh r.ZW (s:Int)=am/\Yh n.Zi (s:Int)=am then U s else Qe n r x k (s+1)
def free(n:Nd)(r:Xw)(x:Cm):Option Nat:=Qe n r x (40-n.ZB.length) n.ZB.length
def J4(n:Nd)(r:Xw)(x:Cm):Xw:=match free n r x with|some s=>{ r with ZW:=ins r.ZW (s:Int) x }|none=>r
def Jd(n:Nd)(r:Xw)(l:List Cm):Xw:=l.foldl (J4 n) r
def RN(n:Nd)(r:Xw):List YF:=(br 5).flatMap fun (m:Nat)=>if Yh r.ZI (m:Int)=am then [⟨0,n.me,m,r.b,St,[]⟩] else []
def Pk(n:Nd)(r:Xw)(s:Nat)(x:Cm)(m:Nat):List YF:=if Yh ((Yh r.Y5 (s:Int)).getD []) (m:Int)=am then [⟨2,n.me,m,Jj,QB s r.b x,[]⟩] else []
def Vx(n:Nd)(r:Xw)(s:Nat):List YF:=match Yh r.ZW (s:Int) with
 | some x=>if Yh n.Zi (s:Int)=am then (br 5).flatMap (Pk n r s x) else []
 | none=>[]
def Tt(n:Nd)(r:Xw):List YF:=(br 40).flatMap (Vx n r)
def X2(n:Nd)(r:Xw):Xw:=Jd n (if r.XM=true then r else Wa n r) n.Zx
def JM(n:Nd)(r:Xw):Out:=
 if ZL n.Zq.p r.b then
  (if Ji n.data n.YZ r.b≠0 then ⟨n,[],[]⟩ else
    ⟨{ n with data:=n.data++YS (JL r.b),Zs:=U (.Zq (if YG n.Zq.p n.Zq.l r.b=0 then ⟨r.b,n.Zq.l⟩ else JE) (if YG n.Zq.p n.Zq.l r.b=0 then n.Zq.l else []) true) },[],[]⟩)
 else if ¬5<2*r.ZI.length then ⟨n,RN n r,[]⟩
 else ⟨{ n with Zh:=U (X2 n r) },Tt n (X2 n r),[]⟩
def Zo(n:Nd):Nd:=match n.Zh with|some r=>if ZL r.b n.Zq.p then { n with Zh:=am } else n|none=>n
def Wu(n:Nd):List YF:=n.Zx.map fun x=>⟨4,n.me,n.Zq.p.n,Jj,QB 0 Jj x,[]⟩
def Z9(n:Nd):Out:=match n.Zh with
 | some r=>JM n r
 | none=>if 0<n.Zq.p.r/\n.Zq.p.n≠n.me then ⟨n,Wu n,[]⟩ else ⟨n,[],[]⟩
def Vi(n:Nd):Yw:=if ZL n.Zq.p n.YX then n.YX else n.Zq.p
def JW(n:Nd):Nd:={ n with Ys:=(n.Ys+1)%5 }
def UI(n:Nd):List YF:=if n.Ys≠n.me/\n.ZB.length<40 then [⟨5,n.me,n.Ys,Vi n,QB n.ZB.length Jj IB,[]⟩] else []
def Yp(n:Nd):Out:=
 if (Z9 (Zo n)).n.Zs.isSome=true then Z9 (Zo n)
 else ⟨JW (Z9 (Zo n)).n,(Z9 (Zo n)).ls++UI (JW (Z9 (Zo n)).n),[]⟩
def ZO(n:Nd):Nd:={ n with data:=if YW n.data n.YZ then n.data else [],YZ:=if YW n.data n.YZ then ((O n.data):Int) else 0,Zs:=am }
def YK(n:Nd):LV->Out
 | .VB a to b vs=>⟨{ n with Zq:=a },[⟨1,n.me,to,b,St,vs⟩],[]⟩
 | .TC a to v=>⟨{ n with Zq:=a },[⟨3,n.me,to,Jj,v,[]⟩],[]⟩
 | .Zq a vs cur=>⟨{ n with Zq:=a,Zh:=if cur=true then n.Zh.map (fun r=>{ r with ZI:=ins r.ZI n.me vs }) else n.Zh },[],[]⟩
def ZA:Nd->List YF->Out
 | n,[]=>⟨{ n with Zg:=[] },[],[]⟩
 | n,l :: k=>if n.Zs.isSome=true then ⟨{ n with Zg:=l :: k },[],[]⟩
  else ⟨(ZA (Zw { n with Zg:=k } l).n k).n,(Zw { n with Zg:=k } l).ls++(ZA (Zw { n with Zg:=k } l).n k).ls,(Zw { n with Zg:=k } l).ts++(ZA (Zw { n with Zg:=k } l).n k).ts⟩
def step(n:Nd):Out:=
 if n.up=true then (match n.Zs with
  | some p=>YK (ZO n) p
  | none=>if (ZA n n.Zg).n.Zs.isSome=true then ZA n n.Zg
   else ⟨(Yp (ZA n n.Zg).n).n,(ZA n n.Zg).ls++(Yp (ZA n n.Zg).n).ls,(ZA n n.Zg).ts++(Yp (ZA n n.Zg).n).ts⟩)
 else ⟨n,[],[]⟩
def Yr(i:Nat)(up:Bool)(data:List Nat)(YZ:Int)(Zq:UC):Nd:=⟨i,up,data,YZ,Zq,Jj,am,[],[],Y1,[],[],[],am,0⟩
def Jp(n:Nd):Yw:=⟨match n.Zh with
 | some r=>max (max n.Zq.p.r n.YX.r+1) (r.b.r+1)
 | none=>max n.Zq.p.r n.YX.r+1,n.me⟩
def X3:Option LV->Option LV
 | some (.Zq a vs _)=>U (.Zq a vs false)
 | p=>p
def lead(n:Nd):Nd:=if n.up=false\/65536<(Jp n).r then n else { n with Zh:=U ⟨Jp n,[],false,[],[]⟩,Zs:=X3 n.Zs }
def Xo(rc:List Nat)(now:Int):Cm:=if YP rc now=0 then ⟨Xv ((Ja rc).drop 22) 0,Xv ((Ja rc).drop 22) 1,Xv ((Ja rc).drop 22) 2,Xv ((Ja rc).drop 22) 3,Xv ((Ja rc).drop 22) 4⟩ else IB
def Ff(l:List Nat):Nat->UC->Nat->UC × Nat
 | 0,a,k=>(a,k)
 | f+1,a,k=>match Y3 l a k with
  | none=>(a,k)
  | some x=>Ff l f x.1 x.2
def Tu(l:List Nat):UC × Nat:=Ff l ((O l)+1) JE 0
def UD(l:List Nat)(n k:Int):Int:=n+(if ((O l):Int)-n<k then ((O l):Int)-n else k)
def XF(i:Nat)(n:Nd)(Zf:Int):Nd:=
 if n.up=true then (if YW n.data n.YZ/\0<=Zf then Yr i false (n.data.take (UD n.data n.YZ Zf).toNat) (UD n.data n.YZ Zf) JE else Yr i false [] 0 JE) else n
def Fg(l:List Nat)(n:Int):List Nat:=if YW l n then l.take (Tu l).2 else []
def iU(l:List Nat)(n:Int):Int:=if YW l n then (if ((Tu l).2:Int)<n then ((Tu l).2:Int) else n) else 0
def started(i:Nat)(n:Nd):Nd:=
 if n.up=true then n else Yr i true (Fg n.data n.YZ) (iU n.data n.YZ) (if YW (Fg n.data n.YZ) (iU n.data n.YZ) then (Tu (Fg n.data n.YZ)).1 else JE)
structure Ac where
 Z7:Int
 ZV:Nat
 at':Nat
 Zf:Int
 data:List Nat
def Wd.set(w:Wd)(i:Nat)(n:Nd):Wd:={ w with Zb:=fun j=>if j=i then n else w.Zb j }
def Wd.out(w:Wd)(i:Nat)(o:Out):Wd:={ Zb:=fun j=>if j=i then o.n else w.Zb j,Zp:=w.Zp++o.ls,Yv:=w.Yv,ZE:=w.ZE++o.ts }
def Q3(w:Wd)(l:YF):Wd:=if (w.Zb l.to.toNat).up=true then w.set l.to.toNat { w.Zb l.to.toNat with Zg:=(w.Zb l.to.toNat).Zg++[l] } else w
def pick(w:Wd)(at':Nat)(comes stays:Bool):Wd:=
 match w.Zp[at'%w.Zp.length]? with
 | none=>w
 | some l=>if comes=true then Q3 (if stays=true then w else { w with Zp:=w.Zp.eraseIdx (at'%w.Zp.length) }) l else (if stays=true then w else { w with Zp:=w.Zp.eraseIdx (at'%w.Zp.length) })
def Rc(n:Nd)(x:Cm):Nd:=if x∈n.Zj then n else { n with Zj:=n.Zj++[x] }
def JN(w:Wd)(i:Nat)(data:List Nat):Wd:=
 if (w.Zb i).up=true then
  (if YP data (w.Zb i).ZB.length≠0 then { w with Yv:=fun j=>if j=i then w.Yv i+1 else w.Yv j }
  else if Xo data (w.Zb i).ZB.length∈(w.Zb i).ZB then
   { w with ZE:=w.ZE++[⟨(w.Zb i).me,(Xo data (w.Zb i).ZB.length).c,(Xo data (w.Zb i).ZB.length).s,Oi (w.Zb i).store (Xo data (w.Zb i).ZB.length),IC (w.Zb i).store (Xo data (w.Zb i).ZB.length)⟩] }
  else w.set i (Rc (add (w.Zb i) (Xo data (w.Zb i).ZB.length)) (Xo data (w.Zb i).ZB.length)))
 else w
def act(w:Wd)(a:Ac):Wd:=
 if a.Z7=1 then JN w a.ZV a.data
 else if a.Z7=2 then w.set a.ZV (lead (w.Zb a.ZV))
 else if a.Z7=3 then w.out a.ZV (step (w.Zb a.ZV))
 else if a.Z7=4\/a.Z7=5\/a.Z7=6 then pick w a.at' (decide (a.Z7≠5)) (decide (a.Z7=6))
 else if a.Z7=7 then w.Zp.foldl Q3 { w with Zp:=[] }
 else if a.Z7=8 then w.set a.ZV (XF a.ZV (w.Zb a.ZV) a.Zf)
 else w.set a.ZV (started a.ZV (w.Zb a.ZV))
def QL:Wd:=⟨fun i=>Yr i true [] 0 JE,[],fun _=>0,[]⟩
def TL(l:List Ac):Wd:=l.foldl act QL
set_option maxRecDepth 100000
@[go_sem] theorem Re:kP aI 107=U 25:=uf
@[go_sem] theorem ID:kP aI 154=U 103:=uf
@[go_sem] theorem Fh:kP aI 155=U 202:=uf
@[go_sem] theorem DC:kP aI 202=U 203:=uf
@[go_sem] theorem yO:kP aI 177=U 176:=uf
@[go_sem] theorem Lt:tzv aI 25=U (a5 IB.C.toArray):=uf
@[go_sem] theorem yP:tzv aI 103=U (al am 0 0):=uf
@[go_sem] theorem DD:tzv aI 202=U (.map am):=uf
@[go_sem] theorem ZeW:tzv aI 203=U (a5 #[]):=uf
@[go_sem] theorem ZlI:tzv aI 176=U .nilFunc:=uf
@[go_sem] theorem ZGt:tkp aI 106=true:=uf
@[go_sem] theorem ZGu:tkm aI 202=true:=uf
@[go_sem] theorem ZGv:tkf aI 1=true:=uf
inductive Tg where
 | world
 | Zb
 | Zp
 | ZE
 | ZV (i:Nat)
 | Zi (i:Nat)
 | ZB (i:Nat)
 | Zx (i:Nat)
 | Zj (i:Nat)
 | Zg (i:Nat)
 | Zh (i:Nat)
 | ZI (i:Nat)
 | ZW (i:Nat)
 | Y5 (i:Nat)
 | RO (i:Nat) (s:Int)
 | X3 (i:Nat)
variable{S:Tg->Prop}
def Tg.of:Tg->Option Nat
 | .world=>am
 | .Zb=>am
 | .Zp=>am
 | .ZE=>am
 | .ZV i=>U i
 | .Zi i=>U i
 | .ZB i=>U i
 | .Zx i=>U i
 | .Zj i=>U i
 | .Zg i=>U i
 | .Zh i=>U i
 | .ZI i=>U i
 | .ZW i=>U i
 | .Y5 i=>U i
 | .RO i _=>U i
 | .X3 i=>U i
abbrev Ow:=Nat->Option Tg
variable{o o':Ow}
structure Im(o:Ow)(n:Nat)(h:Hp)(v:au)(m:Nat)(cs:List au):Prop where
 sl:Sl n h v m cs
 fits:∃p c,v=al p m c/\m<=c
 free:∀b,Yf v=U b->b<h.size/\o b=am
theorem Im.Zf{n m:Nat}(s:Im o n h v m cs)(k:Kp S o h o' h'):Im o' n h' v m cs:=by
 obtain⟨⟨p,c,rfl,hl,hcc⟩,⟨p',c',he,hm⟩,hf⟩:=s;simp only[Value.slice.injEq,true_and]at he;obtain⟨rfl,rfl⟩:=he;have hf':∀b,Yf (al p m c)=U b->b<h.size/\o b=am/\h'[b]? = h[b]? /\ o' b=am:=fun b hb=>by
  obtain⟨h1,h2⟩:=hf b hb;obtain⟨h3,h4⟩:=k.Zf b h1 fun t ht=>by rw[h2]at ht;cases ht
  exact⟨h1,h2,h3,by rw[h4,h2]⟩
 refine⟨⟨p,c,rfl,hl,fun Y4=>?_⟩,⟨p,c,rfl,hm⟩,fun b hb=>⟨b0 (hf' b hb).1 k.size,(hf' b hb).2.2.2⟩⟩;obtain⟨b,off,rfl,XE⟩:=hcc Y4;have kJ:c≠0:=by
  intro e;have:m=0:=nc;subst this;exact Y4 (List.eq_nil_of_length_eq_zero (by simpa using hl))
 have hb:Yf (al (U ⟨b,off,am⟩) m c)=U b:=by simp[Yf,kJ]
 refine⟨b,off,rfl,fun i hi=>?_⟩;have:=XE i hi;unfold hc at this ⊢;rw[(hf' b hb).2.2.1];exact this
theorem Im.WK{B n m:Nat}{E:TypeId}(s:UE B E n h v m cs)(hd:∀b,B<=b->o b=am):Im o n h v m cs:=by
 refine⟨s.sl,?_,fun b hb=>?_⟩
 .rcases s with⟨⟨p,rfl⟩,rfl,_⟩|⟨b,cap,sp,_,rfl,_,_,_,hm⟩
  .exact⟨p,0,rfl,a8 _⟩
  .exact⟨_,cap,rfl,hm⟩
 .exact⟨s.lt b hb,hd b (s.ZX b hb)⟩
theorem Im.nil(o:Ow)(n:Nat)(h:Hp)(p:Option Addr):Im o n h (al p 0 0) 0 []:=
 ⟨⟨p,0,rfl,Hg,fun Y4=>absurd rfl Y4⟩,⟨p,0,rfl,a8 _⟩,fun b hb=>by cases p<;>simp[Yf]at hb⟩
def TD(o:Ow)(h:Hp)(v:au)(l:List Vt):Prop:=Im o 8 h v (O l) (ZT Zv l)
def Pv(o:Ow)(h:Hp)(v:au)(l:List Nat):Prop:=Im o 1 h v (O l) (l.map bv)/\∀x∈l,x<256
theorem TD.ts{l:List Vt}(s:TD o h v l):Ts Zv 8 h v l:=⟨Im.sl s⟩
theorem Pv.bs{l:List Nat}(s:Pv o h v l):Bs h v l:=⟨s.1.sl,s.2⟩
theorem TD.Zf{l:List Vt}(s:TD o h v l)(k:Kp S o h o' h'):TD o' h' v l:=Im.Zf s k
theorem Pv.Zf{l:List Nat}(s:Pv o h v l)(k:Kp S o h o' h'):Pv o' h' v l:=⟨s.1.Zf k,s.2⟩
def XN(l:YF)(w:au):List au:=[Q J l.Z7,Q J l.Jq,Q J l.to,Q J l.b.r,Q J l.b.n,Q J l.v.Zu,Q J l.v.b.r,Q J l.v.b.n,Q J l.v.k,Q J l.v.c,Q J l.v.s,Q J l.v.nm,Q J l.v.v,w]
def IE(x:YF × au):List au:=XN x.1 x.2
def Fi(t:Ps):List au:=[Q J t.ZV,Q J t.c,Q J t.s,Q J t.code,Q J t.val]
def Zz(b:Nat):au:=a0 (U ⟨b,0,am⟩)
def Sg(x:Cm):au:=a5 x.C.toArray
def We(o:Ow)(t:Tg)(h:Hp)(v:au)(l:List Cm):Prop:=Xz o t 25 5 h v (O l) (ZT J2.C l)
def Wv(o:Ow)(t:Tg)(h:Hp)(v:au)(l:List YF):Prop:=
 ∃xs:List (YF × au),xs.map (·.1)=l/\Xz o t 135 14 h v (O xs) (ZT IE xs)/\∀x∈xs,TD o h x.2 x.1.vs
theorem We.Zf{t:Tg}(s:We o t h v l)(k:Kp S o h o' h')(hn:¬S t):We o' t h' v l:=Xz.Zf s k hn
theorem Wv.Zf{t:Tg}{l:List YF}(s:Wv o t h v l)(k:Kp S o h o' h')(hn:¬S t):Wv o' t h' v l:=by
 obtain⟨xs,h1,h2,h3⟩:=s;exact⟨xs,h1,h2.Zf k hn,fun x hx=>(h3 x hx).Zf k⟩
def UW(o:Ow)(t:Tg)(h:Hp)(b:Nat)(l:List (Int × au)):Prop:=o b=U t/\h[b]? = U (Jn l)
theorem UW.Zf{t:Tg}{b:Nat}{l:List (Int × au)}(s:UW o t h b l)(k:Kp S o h o' h')(hn:¬S t):UW o' t h' b l:=by
 have Nl:∀u,o b=U u->¬S u:=fun u hu=>by rw[s.1]at hu;cases hu;exact hn
 exact⟨by rw[k.Zq s.2 Nl,s.1],k.get s.2 Nl⟩
def Ww(o:Ow)(t:Tg)(h:Hp)(b:Nat)(x:Obj):Prop:=o b=U t/\h[b]? = U x
theorem Ww.Zf{t:Tg}{b:Nat}{x:Obj}(s:Ww o t h b x)(k:Kp S o h o' h')(hn:¬S t):Ww o' t h' b x:=by
 have Nl:∀u,o b=U u->¬S u:=fun u hu=>by rw[s.1]at hu;cases hu;exact hn
 exact⟨by rw[k.Zq s.2 Nl,s.1],k.get s.2 Nl⟩
def Yb(o:Ow)(h:Hp)(b:Nat)(x:Obj):Prop:=o b=am/\h[b]? = U x
theorem Yb.Zf{b:Nat}{x:Obj}(s:Yb o h b x)(k:Kp S o h o' h'):Yb o' h' b x:=(k.free s.2 s.1).symm
def WL(o:Ow)(h:Hp)(pv:List (Int × au))(pr:List (Int × List Vt)):Prop:=AV (fun x y=>x.1=y.1/\TD o h x.2 y.2) pv pr
theorem WL.Zf{pv:List (Int × au)}{pr:List (Int × List Vt)}(s:WL o h pv pr)(k:Kp S o h o' h'):WL o' h' pv pr:=by
 induction s with
 | nil=>exact .nil
 | cons a _ ih=>exact .cons ⟨a.1,a.2.Zf k⟩ ih
def Hc(l:List (Int × Unit)):List (Int × au):=Vu (fun _=>a5 #[]) l
def Wx(o:Ow)(i:Nat)(h:Hp)(sv:List (Int × Nat))(vt:List (Int × List (Int × Unit))):Prop:=AV (fun x y=>x.1=y.1/\UW o (.RO i y.1) h x.2 (Hc y.2)) sv vt
theorem Wx.Zf{i:Nat}{sv:List (Int × Nat)}{vt:List (Int × List (Int × Unit))}(s:Wx o i h sv vt)(k:Kp S o h o' h')(hn:∀s,¬S (.RO i s)):Wx o' i h' sv vt:=by
 induction s with
 | nil=>exact .nil
 | cons a _ ih=>exact .cons ⟨a.1,a.2.Zf k (hn _)⟩ ih
def mpV(b:Nat):au:=.map (U b)
structure RA where
 rb:Nat
 pb:Nat
 qb:Nat
 vb:Nat
 pv:List (Int × au)
 sv:List (Int × Nat)
def iW(r:Xw)(a:RA):List au:=[Q J r.b.r,Q J r.b.n,.map (U a.pb),aU r.XM,.map (U a.qb),.map (U a.vb)]
structure Xt(o:Ow)(i:Nat)(h:Hp)(a:RA)(r:Xw):Prop where
 ZX:Ww o (.Zh i) h a.rb (Z (iW r a).toArray 157)
 ZI:UW o (.ZI i) h a.pb a.pv
 Ok:WL o h a.pv r.ZI
 ZW:UW o (.ZW i) h a.qb (Vu Sg r.ZW)
 Y5:UW o (.Y5 i) h a.vb (Vu mpV a.sv)
 Rg:Wx o i h a.sv r.Y5
 keys:(a.sv.map (·.1)).Nodup
def JS(i:Nat)(t:Tg):Prop:=t=.Zh i\/t=.ZI i\/t=.ZW i\/t=.Y5 i\/∃s,t=.RO i s
theorem Xt.Zf{i:Nat}{a:RA}{r:Xw}(s:Xt o i h a r)(k:Kp S o h o' h')(hn:∀t,JS i t->¬S t):Xt o' i h' a r:=
 ⟨s.ZX.Zf k (hn _ (.inl rfl)),s.ZI.Zf k (hn _ (.inr (.inl rfl))),s.Ok.Zf k,s.ZW.Zf k (hn _ (.inr (.inr (.inl rfl)))),s.Y5.Zf k (hn _ (.inr (.inr (.inr (.inl rfl))))),s.Rg.Zf k (fun s=>hn _ (.inr (.inr (.inr (.inr ⟨s,rfl⟩))))),s.keys⟩
def Md:Option RA->au
 | some a=>Zz a.rb
 | none=>a0 am
def ZcW(o:Ow)(i:Nat)(h:Hp):Option RA->Option Xw->Prop
 | some a,U r=>Xt o i h a r
 | none,am=>True
 | _,_=>False
theorem ZcW.Zf{i:Nat}{a:Option RA}{r:Option Xw}(s:ZcW o i h a r)(k:Kp S o h o' h')(hn:∀t,JS i t->¬S t):ZcW o' i h' a r:=by
 cases a<;>cases r<;>first|exact s|exact Xt.Zf s k hn
def TM(f:FuncId)(l:List Nat):au:=.func (.func f) #[] (l.map Zz).toArray
def yQ(o:Ow)(h:Hp)(wb nb:Nat)(v:au)(to:Int)(b:Yw)(vs:List Vt):Prop:=
 ∃b3 b4 b5 b7 l w5 w,v=TM 106 [b3,b4,b5,b7]/\Yb o h b3 (Z [Zz wb].toArray 91)/\Yb o h b4 (Z [Zz nb].toArray 98) /\
  Yb o h b5 (Z (XN l w5).toArray 135)/\l.Jq=to/\l.b=b/\Yb o h b7 (Z [w].toArray 103)/\TD o h w vs
def yR(o:Ow)(h:Hp)(wb nb:Nat)(v:au)(to:Int)(x:Vt):Prop:=
 ∃b3 b4 b5 l w5,v=TM 111 [b3,b4,b5]/\Yb o h b3 (Z [Zz wb].toArray 91)/\Yb o h b4 (Z [Zz nb].toArray 98) /\
  Yb o h b5 (Z (XN l w5).toArray 135)/\l.Jq=to/\l.v=x
theorem yQ.Zf{wb nb:Nat}{to:Int}{b:Yw}{vs:List Vt}(s:yQ o h wb nb v to b vs)(k:Kp S o h o' h'):yQ o' h' wb nb v to b vs:=by
 obtain⟨b3,b4,b5,b7,l,w5,w,h1,h2,h3,h4,h5,h6,h7,h8⟩:=s;exact⟨b3,b4,b5,b7,l,w5,w,h1,h2.Zf k,h3.Zf k,h4.Zf k,h5,h6,h7.Zf k,h8.Zf k⟩
theorem yR.Zf{wb nb:Nat}{to:Int}{x:Vt}(s:yR o h wb nb v to x)(k:Kp S o h o' h'):yR o' h' wb nb v to x:=by
 obtain⟨b3,b4,b5,l,w5,h1,h2,h3,h4,h5,h6⟩:=s;exact⟨b3,b4,b5,l,w5,h1,h2.Zf k,h3.Zf k,h4.Zf k,h5,h6⟩
def Ol(o:Ow)(h:Hp)(b:Nat)(a:UC):Prop:=∃w,Yb o h b (Z (Xu a.p w).toArray 105)/\TD o h w a.l
theorem Ol.Zf{b:Nat}{a:UC}(s:Ol o h b a)(k:Kp S o h o' h'):Ol o' h' b a:=by
 obtain⟨w,h1,h2⟩:=s;exact⟨w,h1.Zf k,h2.Zf k⟩
def ZlJ(o:Ow)(h:Hp)(i nb:Nat)(ra:Option RA)(v:au)(a:UC)(vs:List Vt)(cur:Bool):Prop:=
 ∃b6 b4 b7 b5 w rb,v=TM 115 [b6,b4,b7,b5]/\Ol o h b6 a/\Yb o h b4 (Z [Zz nb].toArray 98)/\Yb o h b7 (Z [w].toArray 103)/\TD o h w vs /\
  Yb o h b5 (Z [Zz rb].toArray 106) /\
  (if cur=true then ∃a,ra=U a/\a.rb=rb else ∃cs pb pv,Ww o (.X3 i) h rb (Z cs 157)/\cs[2]? = U (.map (U pb))/\UW o (.X3 i) h pb pv)
def Vj(o:Ow)(h:Hp)(wb i nb:Nat)(ra:Option RA):au->Option LV->Prop
 | v,am=>v=.nilFunc
 | v,U (.VB a to b vs)=>∃b6 b4 b9 u,v=TM 108 [b6,b4,b9]/\Ol o h b6 a/\Yb o h b4 (Z [Zz nb].toArray 98)/\Yb o h b9 (Z [u].toArray 1)/\yQ o h wb nb u to b vs
 | v,U (.TC a to x)=>∃b6 b4 b9 u,v=TM 114 [b6,b4,b9]/\Ol o h b6 a/\Yb o h b4 (Z [Zz nb].toArray 98)/\Yb o h b9 (Z [u].toArray 1)/\yR o h wb nb u to x
 | v,U (.Zq a vs cur)=>ZlJ o h i nb ra v a vs cur
theorem Vj.Zf{wb i nb:Nat}{ra:Option RA}{p:Option LV}(s:Vj o h wb i nb ra v p)(k:Kp S o h o' h')(hn:¬S (.X3 i)):Vj o' h' wb i nb ra v p:=by
 match p,s with
 | none,s=>exact s
 | some (.VB a to b vs),⟨b6,b4,b9,u,h1,h2,h3,h4,h5⟩=>exact⟨b6,b4,b9,u,h1,h2.Zf k,h3.Zf k,h4.Zf k,h5.Zf k⟩
 | some (.TC a to x),⟨b6,b4,b9,u,h1,h2,h3,h4,h5⟩=>exact⟨b6,b4,b9,u,h1,h2.Zf k,h3.Zf k,h4.Zf k,h5.Zf k⟩
 | some (.Zq a vs cur),⟨b6,b4,b7,b5,w,rb,h1,h2,h3,h4,h5,h6,h7⟩=>
  refine⟨b6,b4,b7,b5,w,rb,h1,h2.Zf k,h3.Zf k,h4.Zf k,h5.Zf k,h6.Zf k,?_⟩
  cases cur with
  | true=>exact h7
  | false=>
   obtain⟨cs,pb,pv,g1,g2,g3⟩:=h7;exact⟨cs,pb,pv,g1.Zf k hn,g2,g3.Zf k hn⟩
structure NA where
 data:au
 XO:au
 Zh:Option RA
 Zi:Nat
 ZB:au
 Zx:au
 Zj:au
 Zg:au
 Zs:au
def VC(n:Nd)(a:NA):List au:=[Q J n.me,aU n.up,a.data,Q J n.YZ,Q J n.Zq.p.r,Q J n.Zq.p.n,a.XO,Q J n.YX.r,Q J n.YX.n,Md a.Zh,.map (U a.Zi),a.ZB]++(n.store++[a.Zx,a.Zj,a.Zg,a.Zs,Q J n.Ys])
def Jb(n:Nd)(a:NA):Obj:=Z (VC n a).toArray 109
structure Lu(cs:List au):Prop where
 fit:Xd JJ cs=true
 num:∀i,i<32->nth cs i=U (Q J (ci cs i))
 yes:∀i,32<=i->i<40->nth cs i=U (aU (cb cs i))
structure Yi(o:Ow)(h:Hp)(wb i nb:Nat)(a:NA)(n:Nd):Prop where
 data:Pv o h a.data n.data
 XO:TD o h a.XO n.Zq.l
 Zh:ZcW o i h a.Zh n.Zh
 Zi:UW o (.Zi i) h a.Zi (Vu Sg n.Zi)
 ZB:We o (.ZB i) h a.ZB n.ZB
 Zx:We o (.Zx i) h a.Zx n.Zx
 Zj:We o (.Zj i) h a.Zj n.Zj
 Zg:Wv o (.Zg i) h a.Zg n.Zg
 Zs:Vj o h wb i nb a.Zh a.Zs n.Zs
 store:Lu n.store
structure Z5(o:Ow)(h:Hp)(wb i nb:Nat)(a:NA)(n:Nd):Prop where
 ZX:Ww o (.ZV i) h nb (Jb n a)
 pt:Yi o h wb i nb a n
theorem Kt{i:Nat}{t:Tg}(h:JS i t):t.of=U i:=by
 rcases h with rfl|rfl|rfl|rfl|⟨s,rfl⟩<;>rfl
section
variable {S:Tg->Prop} {o o':Ow} {h h':Hp} {wb i nb:Nat} {a:NA} {n:Nd}
theorem Yi.Zf(s:Yi o h wb i nb a n)(k:Kp S o h o' h')(hn:∀t,S t->t.of≠U i\/t=.ZV i):Yi o' h' wb i nb a n:=by
 have q:∀t:Tg,t.of=U i->t ≠ .ZV i->¬S t:=fun t ht Y4 hs=>(hn t hs).elim (fun q=>q ht) Y4;exact⟨s.data.Zf k,s.XO.Zf k,s.Zh.Zf k (fun t ht=>q t (Kt ht) (by rcases ht with rfl|rfl|rfl|rfl|⟨z,rfl⟩<;>intro e<;>cases e)),s.Zi.Zf k (q _ rfl Ih),s.ZB.Zf k (q _ rfl Ih),s.Zx.Zf k (q _ rfl Ih),s.Zj.Zf k (q _ rfl Ih),s.Zg.Zf k (q _ rfl Ih),s.Zs.Zf k (q _ rfl Ih),s.store⟩
theorem Z5.Zf(s:Z5 o h wb i nb a n)(k:Kp S o h o' h')(hn:∀t,S t->t.of≠U i):Z5 o' h' wb i nb a n:=
 ⟨s.ZX.Zf k fun q=>hn _ q rfl,s.pt.Zf k fun t ht=>.inl (hn t ht)⟩
theorem Yi.put(s:Yi o h wb i nb a n)(d:Vp o h){x:Obj}(b:Ww o (.ZV i) h nb x):Z5 o (h.setIfInBounds nb (Jb n a)) wb i nb a n:=
 ⟨⟨b.1,ZS b.2⟩,s.Zf ((Kp.refl d (fun t=>t=.ZV i)).set b.1 rfl _) fun t ht=>.inr ht⟩
theorem Yi.write(s:Yi o h wb i nb a n)(d:Vp o h){x:Obj}(b:Ww o (.ZV i) h nb x){e:Option Hp}(w:e=U (h.setIfInBounds nb (Jb n a))):∃g,e=U g/\Z5 o g wb i nb a n/\Kp (fun t=>t=.ZV i) o h o g:=
 ⟨_,w,s.put d b,(Kp.refl d (fun t=>t=.ZV i)).set b.1 rfl _⟩
theorem Yi.DF(s:Yi o h wb i nb a n)(k:Kp (fun t=>t=.Zx i) o h o' h')(hv:We o' (.Zx i) h' v l):Yi o' h' wb i nb { a with Zx:=v } { n with Zx:=l }:=
 ⟨s.data.Zf k,s.XO.Zf k,s.Zh.Zf k (fun t ht=>by rcases ht with rfl|rfl|rfl|rfl|⟨z,rfl⟩<;>intro e<;>cases e),s.Zi.Zf k Ih,s.ZB.Zf k Ih,hv,s.Zj.Zf k Ih,s.Zg.Zf k Ih,s.Zs.Zf k Ih,s.store⟩
theorem Yi.ZcX(s:Yi o h wb i nb a n)(k:Kp (fun t=>t=.ZB i) o h o' h')(hv:We o' (.ZB i) h' v l):Yi o' h' wb i nb { a with ZB:=v } { n with ZB:=l }:=
 ⟨s.data.Zf k,s.XO.Zf k,s.Zh.Zf k (fun t ht=>by rcases ht with rfl|rfl|rfl|rfl|⟨z,rfl⟩<;>intro e<;>cases e),s.Zi.Zf k Ih,hv,s.Zx.Zf k Ih,s.Zj.Zf k Ih,s.Zg.Zf k Ih,s.Zs.Zf k Ih,s.store⟩
theorem Yi.IF(s:Yi o h wb i nb a n)(k:Kp (fun t=>t=.Zj i) o h o' h')(hv:We o' (.Zj i) h' v l):Yi o' h' wb i nb { a with Zj:=v } { n with Zj:=l }:=
 ⟨s.data.Zf k,s.XO.Zf k,s.Zh.Zf k (fun t ht=>by rcases ht with rfl|rfl|rfl|rfl|⟨z,rfl⟩<;>intro e<;>cases e),s.Zi.Zf k Ih,s.ZB.Zf k Ih,s.Zx.Zf k Ih,hv,s.Zg.Zf k Ih,s.Zs.Zf k Ih,s.store⟩
theorem Yi.qx(s:Yi o h wb i nb a n)(k:Kp (fun t=>t=.Zg i) o h o' h'){l:List YF}(hv:Wv o' (.Zg i) h' v l):Yi o' h' wb i nb { a with Zg:=v } { n with Zg:=l }:=
 ⟨s.data.Zf k,s.XO.Zf k,s.Zh.Zf k (fun t ht=>by rcases ht with rfl|rfl|rfl|rfl|⟨z,rfl⟩<;>intro e<;>cases e),s.Zi.Zf k Ih,s.ZB.Zf k Ih,s.Zx.Zf k Ih,s.Zj.Zf k Ih,hv,s.Zs.Zf k Ih,s.store⟩
theorem Yi.qA(s:Yi o h wb i nb a n)(k:Kp (fun t=>t=.Zi i) o h o' h'){v:Nat}{l:List (Int × Cm)}(hv:UW o' (.Zi i) h' v (Vu Sg l)):Yi o' h' wb i nb { a with Zi:=v } { n with Zi:=l }:=
 ⟨s.data.Zf k,s.XO.Zf k,s.Zh.Zf k (fun t ht=>by rcases ht with rfl|rfl|rfl|rfl|⟨z,rfl⟩<;>intro e<;>cases e),hv,s.ZB.Zf k Ih,s.Zx.Zf k Ih,s.Zj.Zf k Ih,s.Zg.Zf k Ih,s.Zs.Zf k Ih,s.store⟩
theorem Yi.UX(s:Yi o h wb i nb a n)(k:Kp (JS i) o h o' h'){ra ra':RA}{r':Xw}(hr:a.Zh=U ra)(Hd:ra'.rb=ra.rb)(hv:Xt o' i h' ra' r'):Yi o' h' wb i nb { a with Zh:=U ra' } { n with Zh:=U r' }:=by
 have q:∀t,t.of=U i->(¬ ∃u,t=u/\JS i u)->¬JS i t:=fun t _ h2 h3=>h2 ⟨t,rfl,h3⟩;have e:∀t:Tg,(t=.Zi i\/t=.ZB i\/t=.Zx i\/t=.Zj i\/t=.Zg i\/t=.X3 i)->¬JS i t:=by
  intro t ht hr;rcases ht with rfl|rfl|rfl|rfl|rfl|rfl<;>rcases hr with e|e|e|e|⟨s,e⟩<;>cases e
 refine⟨s.data.Zf k,s.XO.Zf k,hv,s.Zi.Zf k (e _ Hg),s.ZB.Zf k (e _ Hg),s.Zx.Zf k (e _ Hg),s.Zj.Zf k (e _ Hg),s.Zg.Zf k (e _ Hg),?_,s.store⟩;have hp:=s.Zs.Zf k (e _ Hg);show Vj o' h' wb i nb (U ra') a.Zs n.Zs;rw[hr]at hp
 match hn:n.Zs,hp with
 | none,hp=>exact hp
 | some (.VB _ _ _ _),hp=>exact hp
 | some (.TC _ _ _),hp=>exact hp
 | some (.Zq _ _ cur),⟨b6,b4,b7,b5,w,rb,h1,h2,h3,h4,h5,h6,h7⟩=>
  refine⟨b6,b4,b7,b5,w,rb,h1,h2,h3,h4,h5,h6,?_⟩
  cases cur with
  | false=>exact h7
  | true=>
   obtain⟨c,hc,hcr⟩:=h7;obtain rfl:=Option.some.inj hc;exact⟨ra',rfl,Hd.trans hcr⟩
end
structure WA where
 Zb:au
 Zp:au
 ZE:au
def X7(Yv:Nat->Int)(a:WA):List au:=[a.Zb,a.Zp,Q J 0,aU false,aU false,aU false,aU false,aU false,al am 0 0,Q J (Yv 0),Q J (Yv 1),Q J (Yv 2),Q J (Yv 3),Q J (Yv 4),a.ZE]
structure ZZ(o:Ow)(h:Hp)(wb:Nat)(nb:Nat->Nat)(a:WA)(fl:List YF)(Yv:Nat->Int)(ZE:List Ps):Prop where
 ZX:Ww o .world h wb (Z (X7 Yv a).toArray 97)
 Zb:Xz o .Zb 98 1 h a.Zb 5 [Zz (nb 0),Zz (nb 1),Zz (nb 2),Zz (nb 3),Zz (nb 4)]
 Zp:Wv o .Zp h a.Zp fl
 ZE:Xz o .ZE 152 5 h a.ZE (O ZE) (ZT Fi ZE)
theorem ZZ.Zf{wb:Nat}{nb:Nat->Nat}{a:WA}{fl:List YF}{Yv:Nat->Int}{ZE:List Ps}(s:ZZ o h wb nb a fl Yv ZE)(k:Kp S o h o' h')(hn:∀t,S t->t.of≠am):ZZ o' h' wb nb a fl Yv ZE:=
 ⟨s.ZX.Zf k fun q=>hn _ q rfl,s.Zb.Zf k fun q=>hn _ q rfl,s.Zp.Zf k fun q=>hn _ q rfl,s.ZE.Zf k fun q=>hn _ q rfl⟩
def Wy(t:Tg):Prop:=False
section
variable {S:Tg->Prop} {o o':Ow} {h h':Hp}
theorem ZY(d:Vp o h)(b:Zk h.size h h'):Kp Wy o h o h':=Kp.Gs d b _
theorem Z1(k:Kp Wy o h o' h'):Kp S o h o' h':=k.mono fun _ q=>q.elim
theorem Z5.Zo{wb i nb:Nat}{a:NA}{n:Nd}(s:Z5 o h wb i nb a n)(k:Kp Wy o h o' h'):Z5 o' h' wb i nb a n:=s.Zf k fun _ q=>q.elim
theorem ZZ.Zo{wb:Nat}{nb:Nat->Nat}{a:WA}{fl:List YF}{Yv:Nat->Int}{ZE:List Ps}(s:ZZ o h wb nb a fl Yv ZE)(k:Kp Wy o h o' h'):ZZ o' h' wb nb a fl Yv ZE:=s.Zf k fun _ q=>q.elim
theorem Yt(d:Vp o h)(x:Obj):Kp Wy o h o (h.push x):=(Kp.refl d _).push x
end
structure eG(o:Ow)(h:Hp):Prop where
 tk:Tk h
 tn:BX 1 niv Pf h
 fk:o 0=am
 fn:o 1=am
theorem Bu{g:Nat}{f:Nat->au}{l:List Nat}(t:BX g f l h)(hf:o g=am)(k:Kp S o h o' h'):BX g f l h'/\o' g=am:=by
 obtain⟨h1,h2⟩:=k.Zf g t.1 fun t ht=>by rw[hf]at ht;cases ht
 refine⟨⟨b0 t.1 k.size,fun i hi=>?_⟩,by rw[h2,hf]⟩;have:=t.2 i hi;unfold hc at this ⊢;rw[h1];exact this
theorem eG.Zf(t:eG o h)(k:Kp S o h o' h'):eG o' h':=
 ⟨(Bu t.tk t.fk k).1,(Bu t.tn t.fn k).1,(Bu t.tk t.fk k).2,(Bu t.tn t.fn k).2⟩
theorem Lu.len(s:Lu cs):(O cs)=40:=by
 have:=YD s.fit;rw[this];rfl
theorem Lu.one(s:Lu cs):cs.all YC=true:=SU s.fit
theorem yS(a:Option RA):YC (Md a)=true:=by cases a<;>rfl
section
variable {h:Hp} {nb:Nat} {n:Nd} {a:NA}
structure ZgV(h:Hp)(nb:Nat)(n:Nd)(a:NA):Prop where
 me:hc h ⟨nb,0,am⟩=U (Q J n.me)
 up:hc h ⟨nb,1,am⟩=U (aU n.up)
 tape:rd h ⟨nb,2,am⟩ 2=U [a.data,Q J n.YZ]
 Zq:rd h ⟨nb,4,am⟩ 3=U [Q J n.Zq.p.r,Q J n.Zq.p.n,a.XO]
 bK:rd h ⟨nb,4,am⟩ 2=U [Q J n.Zq.p.r,Q J n.Zq.p.n]
 Zt9:hc h ⟨nb,4,am⟩=U (Q J n.Zq.p.r)
 ZGx:hc h ⟨nb,5,am⟩=U (Q J n.Zq.p.n)
 XO:hc h ⟨nb,6,am⟩=U a.XO
 YX:rd h ⟨nb,7,am⟩ 2=U [Q J n.YX.r,Q J n.YX.n]
 ZgW:hc h ⟨nb,7,am⟩=U (Q J n.YX.r)
 Zh:hc h ⟨nb,9,am⟩=U (Md a.Zh)
 Zi:hc h ⟨nb,10,am⟩=U (.map (U a.Zi))
 ZB:hc h ⟨nb,11,am⟩=U a.ZB
 store:rd h ⟨nb,12,am⟩ 40=U n.store
 Zx:hc h ⟨nb,52,am⟩=U a.Zx
 Zj:hc h ⟨nb,53,am⟩=U a.Zj
 Zg:hc h ⟨nb,54,am⟩=U a.Zg
 Zs:hc h ⟨nb,55,am⟩=U a.Zs
 Ys:hc h ⟨nb,56,am⟩=U (Q J n.Ys)
theorem DG(hs:(O n.store)=40):(VC n a).length=57:=by
 unfold VC;rw[aw,aw,hs];rfl
theorem Om(hs:(O n.store)=40)(k:Nat):nth (VC n a) (52+k)=nth [a.Zx,a.Zj,a.Zg,a.Zs,Q J n.Ys] k:=by
 unfold VC;rw[YR,YR,bn KQ,bn KQ]
 congr 1
 simp;omega
theorem ZR(H:h[nb]? = U (Jb n a))(hs:(O n.store)=40):ZgV h nb n a:=by
 have l57:=DG (a:=a) hs;have c:∀k,hc h ⟨nb,k,am⟩=nth (VC n a) k:=fun k=>Zn H;have r:∀k m,k+m<=57->rd h ⟨nb,k,am⟩ m=U (((VC n a).drop k).take m):=fun k m hk=>YJ H (by rw[l57];exact hk);refine⟨c 0,c 1,r 2 2 nc,r 4 3 nc,r 4 2 nc,c 4,c 5,c 6,r 7 2 nc,c 7,c 9,c 10,c 11,?_,(c 52).trans (Om hs 0),(c 53).trans (Om hs 1),(c 54).trans (Om hs 2),(c 55).trans (Om hs 3),(c 56).trans (Om hs 4)⟩;rw[r 12 40 nc]
 congr 1
 unfold VC;rw[List.drop_append_of_le_length Hg];simp only[List.drop_succ_cons,List.drop_nil,List.drop_zero,bA];rw[<-hs,List.take_left'];rfl
structure ZgX(h:Hp)(nb:Nat)(n:Nd)(a:NA):Prop where
 up:∀v,QP h ⟨nb,1,am⟩ (aU v)=U (h.setIfInBounds nb (Jb { n with up:=v } a))
 tape:∀d s,YC d=true->wr h ⟨nb,2,am⟩ [d,Q J s]=U (h.setIfInBounds nb (Jb { n with YZ:=s } { a with data:=d }))
 Zq:∀r k w,YC w=true->wr h ⟨nb,4,am⟩ [Q J r,Q J k,w]=U (h.setIfInBounds nb (Jb { n with Zq:=⟨⟨r,k⟩,n.Zq.l⟩ } { a with XO:=w }))
 YX:∀r k,wr h ⟨nb,7,am⟩ [Q J r,Q J k]=U (h.setIfInBounds nb (Jb { n with YX:=⟨r,k⟩ } a))
 Zh:∀b,QP h ⟨nb,9,am⟩ (Md b)=U (h.setIfInBounds nb (Jb n { a with Zh:=b }))
 ZB:∀v,YC v=true->QP h ⟨nb,11,am⟩ v=U (h.setIfInBounds nb (Jb n { a with ZB:=v }))
 store:∀cs:List au,(O cs)=40->cs.all YC=true->wr h ⟨nb,12,am⟩ cs=U (h.setIfInBounds nb (Jb { n with store:=cs } a))
 Zx:∀v,YC v=true->QP h ⟨nb,52,am⟩ v=U (h.setIfInBounds nb (Jb n { a with Zx:=v }))
 Zj:∀v,YC v=true->QP h ⟨nb,53,am⟩ v=U (h.setIfInBounds nb (Jb n { a with Zj:=v }))
 Zg:∀v,YC v=true->QP h ⟨nb,54,am⟩ v=U (h.setIfInBounds nb (Jb n { a with Zg:=v }))
 Zs:∀v,YC v=true->QP h ⟨nb,55,am⟩ v=U (h.setIfInBounds nb (Jb n { a with Zs:=v }))
 Ys:∀k,QP h ⟨nb,56,am⟩ (Q J k)=U (h.setIfInBounds nb (Jb { n with Ys:=k } a))
theorem set_tail(pre mid l:List au)(k:Nat)(v:au)(hk:(O pre)+(O mid)=52):(pre++(mid++l)).set (52+k) v=pre++(mid++l.set k v):=by
 rw[bG _ _ nc,bG _ _ nc]
 congr 3
 omega
theorem XH(H:h[nb]? = U (Jb n a))(hs:(O n.store)=40):ZgX h nb n a:=by
 have l57:=DG (a:=a) hs;have w1:∀(k:Nat) (v:au) (n':Nd) (a':NA),k<57->YC v=true->(VC n a).set k v=VC n' a'->QP h ⟨nb,k,am⟩ v=U (h.setIfInBounds nb (Jb n' a')):=fun k v n' a' hk hv he=>by
  rw[Xe H,if_pos ⟨by rw[l57];exact hk,hv⟩,he];rfl
 have w:∀(k:Nat) (vs:List au) (n':Nd) (a':NA),k+(O vs)<=57->vs.all YC=true->Y9 (VC n a) k vs=VC n' a'->wr h ⟨nb,k,am⟩ vs=U (h.setIfInBounds nb (Jb n' a')):=fun k vs n' a' hk hv he=>by
  rw[Ye H,if_pos ⟨by rw[l57];exact hk,hv⟩,he];rfl
 refine⟨fun v=>w1 _ _ _ _ nc rfl rfl,fun d s hd=>w _ _ _ _ Hg (by rw[ck,hd];rfl) rfl,fun r k v hv=>w _ _ _ _ Hg (by simp only[ck,hv];rfl) rfl,fun r k=>w _ _ _ _ Hg (by simp[YC]) rfl,fun b=>w1 _ _ _ _ nc (yS b) rfl,fun v hv=>w1 _ _ _ _ nc hv rfl,fun cs hl XV=>w _ _ _ _ nc XV ?_,
  fun v hv=>w1 _ _ _ _ nc hv ?_,fun v hv=>w1 _ _ _ _ nc hv ?_,fun v hv=>w1 _ _ _ _ nc hv ?_,fun v hv=>w1 _ _ _ _ nc hv ?_,fun k=>w1 _ _ _ _ nc rfl ?_⟩
 .unfold VC;exact TY rfl (by rw[hl,hs])
 all_goals
  unfold VC
  first
   | exact set_tail _ _ _ 0 _ (by rw[hs];rfl)
   | exact set_tail _ _ _ 1 _ (by rw[hs];rfl)
   | exact set_tail _ _ _ 2 _ (by rw[hs];rfl)
   | exact set_tail _ _ _ 3 _ (by rw[hs];rfl)
   | exact set_tail _ _ _ 4 _ (by rw[hs];rfl)
end
section
variable {h:Hp} {wb:Nat} {Yv:Nat->Int} {a:WA}
structure ZcY(h:Hp)(wb:Nat)(Yv:Nat->Int)(a:WA):Prop where
 Zb:hc h ⟨wb,0,am⟩=U a.Zb
 Zp:hc h ⟨wb,1,am⟩=U a.Zp
 ZE:hc h ⟨wb,14,am⟩=U a.ZE
 out:rd h ⟨wb,2,am⟩ 13=U [Q J 0,aU false,aU false,aU false,aU false,aU false,al am 0 0,Q J (Yv 0),Q J (Yv 1),Q J (Yv 2),Q J (Yv 3),Q J (Yv 4),a.ZE]
 Bv:∀v,YC v=true->QP h ⟨wb,1,am⟩ v=U (h.setIfInBounds wb (Z (X7 Yv { a with Zp:=v }).toArray 97))
 ZeX:∀v,YC v=true->QP h ⟨wb,14,am⟩ v=U (h.setIfInBounds wb (Z (X7 Yv { a with ZE:=v }).toArray 97))
 ZgY:∀v,YC v=true->QP h ⟨wb,0,am⟩ v=U (h.setIfInBounds wb (Z (X7 Yv { a with Zb:=v }).toArray 97))
theorem XP(H:h[wb]? = U (Z (X7 Yv a).toArray 97)):ZcY h wb Yv a:=by
 refine⟨Zn H,Zn H,Zn H,YJ H (by simp[X7]),fun v hv=>?_,fun v hv=>?_,fun v hv=>?_⟩
 all_goals
  rw[Xe H,if_pos ⟨by simp[X7],hv⟩];rfl
end
theorem Im.ZP{n:Nat}{m:Nat}(s:Im o n h v m cs):∃p c,v=al p m c:=by
 obtain⟨p,c,h,_⟩:=s.fits;exact⟨p,c,h⟩
theorem Te{α:Type}(enc:α->List au)(x:α):ZT enc [x]=enc x:=by simp[ZT]
def mb(t:Tg):Prop:=t=.world\/t=.Zp
theorem VR(h:Hp)(o:Ow)(wb nb:Nat)(YL:Nat->Nat)(me:Nat)(Xq:WA)(fl:List YF)(Yv:Nat->Int)(ZE:List Ps)(to:Int)(l:YF)(w:au)(d:Vp o h)(W:ZZ o h wb YL Xq fl Yv ZE)(EJ:hc h ⟨nb,0,am⟩=U (Q J me))(TF:nb<h.size)(iv:TD o h w l.vs)(Y7:(O fl)<=1000000000000):
  Zd aI T 94 #[Zz wb,Zz nb,Q J to,a5 (XN l w).toArray] h fun v' h'=>∃o' Jv,Kp mb o h o' h'/\(∀b,b<h.size->o' b=o b)/\ZZ o' h' wb YL Jv (fl++[⟨l.Z7,me,to,l.b,l.v,l.vs⟩]) Yv ZE:=by
 obtain⟨p,c,hw⟩:=iv.ZP;have XV:YC w=true:=by rw[hw];rfl
 have Bw:=Za W.ZX.2;have R0:=XP W.ZX.2;refine Zd.XS [_,_,_,_] Tryz.func94 ?_;unfold Zz XN;have e1:nb≠h.size:=nc;have e2:wb≠h.size:=nc;simp -implicitDefEqProofs only[go_sem,OE,e1,EJ];refine VS.z (h.size+1) [7,10] (.p 0 (.p 1 (.p 2 (.p 3 (.q 4 (.q 5 (.s 6 (.w 7 (.p 8 (.p 9 (.w 10 .nil))))))))))) mixed uf ?_;simp -implicitDefEqProofs only[go_sem,OE,kH,e1,e2,EJ,R0.Zp,Bw];obtain⟨h1,Xk⟩:=ZQ (h.push (Z (XN ⟨l.Z7,me,to,l.b,l.v,l.vs⟩ w).toArray 135):Hp);have s1:h1.size=h.size+1:=by rw[Xk];simp
 obtain⟨h2,VQ⟩:=ZQ (h1.push (Z (XN ⟨l.Z7,me,to,l.b,l.v,l.vs⟩ w).toArray 135):Hp);have ee:((h.push (Z (XN ⟨l.Z7,me,to,l.b,l.v,l.vs⟩ w).toArray 135)).push (Z (XN ⟨l.Z7,me,to,l.b,l.v,l.vs⟩ w).toArray 135))=h2:=by rw[VQ,Xk]
 unfold XN at ee;simp only at ee;refine⟨Zk.push Hg _,?_⟩;rw[ee];have k2:Kp (fun _=>False) o h o h2:=by rw[VQ,Xk];exact ((Kp.refl d _).push _).push _
 have W2:=W.Zf k2 (fun _ q=>q.elim);have tW:=iv.Zf k2;obtain⟨xs,UY,NV,ic⟩:=W2.Zp;have Bd:(O xs)=(O fl):=by rw[<-UY,List.length_map]
 have src:Sl 14 h2 (al (U ⟨h.size+1,0,am⟩) 1 1) 1 (XN ⟨l.Z7,me,to,l.b,l.v,l.vs⟩ w):=by
  rw[VQ,<-s1];exact Sl.made (by simp[XN]) 1
 refine QV (E:=135) (n:=14) (bytes:=128) (k:=1) kQ cc wq kT rfl Zez NV k2.Yn src (by rw[XN,be];intro x hx;simp at hx;rcases hx with rfl|rfl|rfl|rfl|rfl|rfl|rfl|rfl|rfl|rfl|rfl|rfl|rfl|rfl<;>first|rfl|exact XV) nc nc ?_;intro v' o3 h3 w3 k3 q3;have b3:=W2.ZX.Zf k3 aaj;have R3:=XP b3.2;obtain⟨p3,c3,rfl,_⟩:=w3.ZP;have hw3:=Za b3.2;have e3:=R3.Bv (al p3 ((O xs)+1) c3) rfl;simp -implicitDefEqProofs only[go_sem,e3];have k4:Kp mb o h o3 h3:=(k2.mono fun _ q=>q.elim).trans (k3.mono fun u q=>.inr q);have k5:=k4.set b3.1 (.inl rfl) (Z (X7 Yv { Xq with Zp:=al p3 ((O xs)+1) c3 }).toArray 97);have kk:Kp (fun u=>u=.world) o3 h3 o3 (h3.setIfInBounds wb (Z (X7 Yv { Xq with Zp:=al p3 ((O xs)+1) c3 }).toArray 97)):=(Kp.refl k3.Yn (fun u=>u=.world)).set b3.1 rfl _;refine⟨o3,{ Xq with Zp:=al p3 ((O xs)+1) c3 },k5,fun b hb=>q3 b (by have:=k2.size;omega),⟨b3.1,ZS b3.2⟩,(W2.Zb.Zf k3 aaj).Zf kk aaj,⟨xs++[(⟨l.Z7,me,to,l.b,l.v,l.vs⟩,w)],?_,?_,fun x hx=>?_⟩,(W2.ZE.Zf k3 aaj).Zf kk aaj⟩
 .rw[List.map_append,UY];rfl
 .have:=w3.Zf kk aaj;rw[Y8,Te,aw];exact this
 .rcases List.mem_append.1 hx with hx|hx
  .exact ((ic x hx).Zf k3).Zf kk
  .have:x=(⟨l.Z7,me,to,l.b,l.v,l.vs⟩,w):=by simpa using hx
   subst this;exact (tW.Zf k3).Zf kk
@[go_sem] theorem Zub(x:Cm):Xd [U J,U J,U J,U J,U J] x.C=true:=rfl
@[go_sem] theorem Zuc(x y:Cm):leq x.C y.C=decide (x=y):=by
 obtain⟨a,b,c,d,e⟩:=x;obtain⟨a',b',c',d',e'⟩:=y;unfold J2.C QW;rw[bB];simp[leq,ceq,J2.mk.injEq]
@[go_sem] theorem Lv(x:Cm):x.C.length=5:=rfl
@[go_sem] theorem yU(x:Cm):x.C.all YC=true:=rfl
@[go_sem] theorem Zpi(x:Cm):Y9 [Q J 0,Q J 0,Q J 0,Q J 0,Q J 0] 0 x.C=x.C:=rfl
theorem QC(s:Ts J2.C 5 h v l):∃p c,v=al p (O l) c/\(l≠[]->∃b o,p=U ⟨b,o,am⟩/\b<h.size/\∀i (hi:i<(O l)),rd h ⟨b,o+i*5,am⟩ 5=U (l[i]).C):=by
 obtain⟨p,c,hv,hh⟩:=s.open Lv aaa;refine⟨p,c,hv,fun Y4=>?_⟩;obtain⟨b,o,h1,h2,h3⟩:=hh Y4;exact⟨b,o,h1,h2,fun i hi=>(h3 i hi).rd (by simp[J2.C,QW]) rfl⟩
def Rh(l:List Cm)(x:Cm):Int:=if x∈l then (l.idxOf x:Int) else -1
theorem yV{x:Cm}{i:Nat}(hi:i<(O l))(he:l[i]=x)(hn:∀j (hj:j<(O l)),j<i->l[j]≠x):l.idxOf x=i:=by
 have hx:x∈l:=he▸bo hi;have h1:l.idxOf x<(O l):=bd hx;have h2:l[l.idxOf x]=x:=b8 h1;rcases Nat.lt_trichotomy (l.idxOf x) i with h|h|h
 .exact absurd h2 (hn _ h1 h)
 .exact h
 .have:=bw (p:=(· == x)) (xs:=l) (i:=i) h
  simp[he]at this
theorem md{x:Cm}{i:Nat}(hi:i<(O l))(he:l[i]=x)(hn:∀j (hj:j<(O l)),j<i->l[j]≠x):Rh l x=i:=by
 unfold Rh;rw[if_pos (he▸bo hi),yV hi he hn]
theorem DH{x:Cm}(hn:∀j (hj:j<(O l)),l[j]≠x):Rh l x = -1:=by
 unfold Rh;rw[if_neg fun hm=>by obtain⟨j,hj,he⟩:=bk hm;exact hn j hj he]
theorem Lw(l:List Cm)(x:Cm):0<=Rh l x↔x∈l:=by
 unfold Rh;split
 .rename_i h;exact⟨fun _=>h,fun _=>by omega⟩
 .rename_i h;exact⟨fun q=>by omega,fun q=>absurd q h⟩
theorem Fj(h:Hp)(v:au)(l:List Cm)(x:Cm)(s:Ts J2.C 5 h v l)(hl:(O l)<=4611686018427387904):
  Zd aI T 67 #[v,Sg x] h fun v' h'=>v'=Q J (Rh l x)/\Zk h.size h h':=by
 obtain⟨p,c,rfl,XE⟩:=QC s;refine Zd.XS [_,_] Tryz.func67 ?_;unfold Sg;simp -implicitDefEqProofs only[go_sem];obtain⟨h1,Xk⟩:=ZQ (h.push (Z x.C.toArray 25):Hp);have b1:Zk h.size h h1:=by rw[Xk];exact Zk.push (a8 _) _
 have x1:h1[h.size]? = U (Z x.C.toArray 25):=by rw[Xk];exact Zc
 rw[<-Xk];clear Xk;refine VS.Yj (fun F g=>g=h1/\F 0=al p (O l) c/\F 3=a0 (U ⟨h.size,0,am⟩)/\F 7=Q J (O l)/\∃i:Nat,i<=(O l)/\F 8=Q J i/\∀j (hj:j<(O l)),j<i->l[j]≠x)
  (fun F _=>(O l)-(vi (F 8)).toNat) rfl ⟨rfl,rfl,rfl,rfl,0,nc,rfl,fun j hj q=>by omega⟩ ?_
 rintro F g ⟨rfl,f0,f3,f7,i,hi,f8,XY⟩;by_cases ZU:i<(O l)
 .have Z8:(i:Int)<(O l):=nc;obtain⟨bb,oo,rfl,Tm,GJ⟩:=XE (by intro e;rw[e]at ZU;simp at ZU);have r1:rd g ⟨bb,oo+i*5,am⟩ 5=U (l[i]).C:=by rw[QU b1 (by exact Tm)];exact GJ i ZU
  have r0:rd g ⟨h.size,0,am⟩ 5=U x.C:=Zy x1 rfl;simp -implicitDefEqProofs only[go_sem,f0,f3,f7,f8,Z8];refine VS.q mixed uf ?_;simp -implicitDefEqProofs only[go_sem,f0,f3,f7,f8,Z8,r1,r0];by_cases q:l[i]=x
  .have e:=md ZU q XY;rw[q];simp -implicitDefEqProofs only[go_sem,e,b1]
  .have q':¬x=l[i]:=fun e=>q e.symm;simp -implicitDefEqProofs only[go_sem,q',f0,f3,f7,f8];refine⟨⟨rfl,f0,f3,f7,i+1,ZU,rfl,fun j hj TO=>?_⟩,?_⟩
   .by_cases e:j=i
    .subst e;exact q
    .exact XY j hj nc
   .simp only[vi,Zr,↓reduceIte,f8];omega
 .have Xp:¬(i:Int)<(O l):=nc;have e:=DH (l:=l) (x:=x) fun j hj=>XY j hj nc;simp -implicitDefEqProofs only[go_sem,f7,f8,Xp,e,b1]
theorem Sv(h:Hp)(v:au)(l:List Cm)(x:Cm)(s:Ts J2.C 5 h v l)(hl:(O l)<=4611686018427387904):
  Zd aI T 69 #[v,Sg x] h fun v' h'=>v'=aU (decide (x∈l))/\Zk h.size h h':=by
 obtain⟨p,c,rfl,XE⟩:=QC s;refine Zd.XS [_,_] Tryz.func69 ?_;unfold Sg;simp -implicitDefEqProofs only[go_sem];refine (Fj T _ _ l x (s.Yy ((Zk.refl _ _).add _)) hl).use ?_;rintro _ h2 ⟨rfl,b2⟩;have b:Zk h.size h h2:=((Zk.refl _ _).add _).trans (b2.mono Hg);simp -implicitDefEqProofs only[go_sem,Lw,b]
theorem DI(h:Hp)(b:Nat)(x y:Cm)(hb:h[b]? = U (Z x.C.toArray 25)):
  Zd aI T 130 #[Sg y,Zz b] h fun v' h'=>v'=aU (decide (y=x))/\Zk h.size h h':=by
 have ZU:=Za hb;refine Zd.XS [_,_] Tryz.func130 ?_;unfold Sg Zz;have Y4:b≠h.size:=nc;have r0:rd (h.push (Z y.C.toArray 25)) ⟨h.size,0,am⟩ 5=U y.C:=Zy Zc rfl;have r1:rd (h.push (Z y.C.toArray 25)) ⟨b,0,am⟩ 5=U x.C:=Zy (by rw[ZJ ZU];exact hb) rfl;simp -implicitDefEqProofs only[go_sem,r0,r1]
def IG(b:Nat):au:=TM 130 [b]
theorem Fk(h:Hp)(v:au)(l:List Cm)(b:Nat)(x:Cm)(s:Ts J2.C 5 h v l)(hb:h[b]? = U (Z x.C.toArray 25))(hl:(O l)<=4611686018427387904):
  Zd aI T 132 #[v,IG b] h fun v' h'=>v'=Q J (Rh l x)/\Zk h.size h h':=by
 obtain⟨p,c,rfl,XE⟩:=QC s;refine Zd.XS [_,_] Tryz.func132 ?_;have ZU:=Za hb;unfold IG TM;simp -implicitDefEqProofs only[go_sem];refine VS.Yj (fun F g=>Zk h.size h g/\F 0=al p (O l) c/\F 1=IG b/\F 7=Q J (O l)/\∃i:Nat,i<=(O l)/\F 8=Q J i/\∀j (hj:j<(O l)),j<i->l[j]≠x)
  (fun F _=>(O l)-(vi (F 8)).toNat) rfl ⟨Zk.refl _ _,rfl,rfl,rfl,0,nc,rfl,fun j hj q=>by omega⟩ ?_
 rintro F g ⟨hg,f0,f1,f7,i,hi,f8,XY⟩;by_cases ZU:i<(O l)
 .have Z8:(i:Int)<(O l):=nc;obtain⟨bb,oo,rfl,Tm,GJ⟩:=XE (by intro e;rw[e]at ZU;simp at ZU);have r1:rd g ⟨bb,oo+i*5,am⟩ 5=U (l[i]).C:=by rw[QU hg (by exact Tm)];exact GJ i ZU
  unfold IG TM at f1;simp only[ch]at f1;simp -implicitDefEqProofs only[go_sem,f0,f1,f7,f8,Z8,r1];refine (DI T g b x l[i] (hg.get nc hb)).use ?_;rintro _ g1 ⟨rfl,b1⟩;have Ns:Zk h.size h g1:=hg.trans (b1.mono hg.size);by_cases q:l[i]=x
  .have e:=md ZU q XY;simp -implicitDefEqProofs only[go_sem,q,f8,e,Ns]
  .simp -implicitDefEqProofs only[go_sem,q,f0,f1,f7,f8];refine⟨⟨Ns,f0,f1,f7,i+1,ZU,rfl,fun j hj TO=>?_⟩,?_⟩
   .by_cases e:j=i
    .subst e;exact q
    .exact XY j hj nc
   .simp only[vi,Zr,↓reduceIte,f8];omega
 .have Xp:¬(i:Int)<(O l):=nc;have e:=DH (l:=l) (x:=x) fun j hj=>XY j hj nc;simp -implicitDefEqProofs only[go_sem,f7,f8,Xp,e,hg]
theorem bL(h:Hp)(o:Ow)(t:Tg)(v:au)(m i:Nat)(cs:List au)(s:Xz o t 25 5 h v m cs)(d:Vp o h)(XV:cs.all YC=true)(hi:i<m)(hm:m<=4611686018427387904):
  Zd aI T 133 #[v,Q J i,Q J ((i:Int)+1)] h fun v' h'=>Xz o t 25 5 h' v' (m-1) (cs.take (i*5)++cs.drop ((i+1)*5))/\Kp (fun u=>u=t) o h o h':=by
 rcases s with⟨⟨p,rfl⟩,rfl,rfl⟩|⟨b,off,cap,pre,ZG,h1,rfl,h3,h4,h5,h6,h7⟩
 .omega
 refine Zd.XS [_,_,_] Tryz.func133 ?_;have e1:(i:Int)<=m:=nc;have e2:(i:Int)+1<=m:=nc;have e3:(m:Int)<=cap:=nc;have e4:(i:Int)≠i+1:=nc;have e5:((i:Int)+1).toNat=i+1:=nc;have e6:(0:Int)<=i+1:=nc;have e7:(i:Int)<=i+1:=nc;have e8:(i:Int)<=cap:=nc;have c0:cap≠0:=nc;simp -implicitDefEqProofs only[go_sem,e1,e2,e3,e4,e5,e6,e7,e8];refine VS.z (h.size) [6] (.p 0 (.p 1 (.p 2 (.p 3 (.p 4 (.p 5 (.w 6 (.p 7 .nil)))))))) mixed uf ?_;simp -implicitDefEqProofs only[go_sem,e1,e2,e3,e4,e5,e6,e7,e8,c0];have HI:i*5<=m*5:=a9 _ nc;have Zud:(i+1)*5<=m*5:=a9 _ nc;have tC:m*5<=cap*5:=a9 _ h7;have ZX:h[b]? = U (Z (pre++(cs.take (i*5)++(cs.drop (i*5)++ZG))).toArray 25 (0,0)):=by
  rw[<-a4 (cn _ _),a6];exact h3
 have src:Sl 5 h (al (if cap=i+1 then U ⟨b,off,am⟩ else U ⟨b,off+(i+1)*5,am⟩) (m-(i+1)) (cap-(i+1))) (m-(i+1)) (cs.drop ((i+1)*5)):=by
  have:=(Xz.tail (k:=i+1) (.inr ⟨b,off,cap,pre,ZG,h1,rfl,h3,h4,h5,h6,h7⟩:Xz o t 25 5 h (al (U ⟨b,off,am⟩) m cap) m cs) nc).sl;rw[bC,XJ]at this;exact this
 have nl:(cs.drop ((i+1)*5)).length=(m-(i+1))*5:=by rw[a3,h5,bh]
 refine Gt (E:=25) (n:=5) (m:=i) (k:=m-(i+1)) (cs:=cs.take (i*5)) AX cd ZfU wm ZX h4.symm aad src (be.2 fun x hx=>be.1 XV x (bR hx)) nc (by rw[aw,a3,h5,<-bh];have:(m-(i+1))*5<=(m-i)*5:=a9 _ nc;omega) ?_;obtain⟨g,hg⟩:=ZQ (h.setIfInBounds b (Z (pre++((cs.take (i*5)++cs.drop ((i+1)*5))++(cs.drop (i*5)++ZG).drop ((m-(i+1))*5))).toArray 25 (0,0)):Hp);rw[<-hg];have kg:Kp (fun u=>u=t) o h o g:=by rw[hg];exact (Kp.refl d (fun u=>u=t)).set h1 rfl _
 have gb:=ZS (o:=Z (pre++((cs.take (i*5)++cs.drop ((i+1)*5))++(cs.drop (i*5)++ZG).drop ((m-(i+1))*5))).toArray 25 (0,0)) h3;rw[<-hg]at gb;have e9:i+(m-(i+1))=m-1:=nc;have f1:((m-1:Nat):Int)<=m:=nc;have f2:(0:Int)<=((m-1:Nat):Int):=nc;have f3:cap≠m-1:=nc;have f4:(((m-1:Nat):Int)).toNat=m-1:=nc;have f5:(0:Int)<=m:=nc;have f6:((m-1:Nat):Int)<=cap:=nc;rw[e9];simp -implicitDefEqProofs only[go_sem,e3,f1,f2,f3,f4,f5,f6];have tl:((cs.drop (i*5)++ZG).drop ((m-(i+1))*5)).length=5+(O ZG):=by
  rw[a3,aw,a3,h5];have:(m-(i+1))*5+5=m*5-i*5:=by rw[<-bh,<-bz];congr 1;omega
  omega
 obtain⟨tail,ht⟩:=ZQ ((cs.drop (i*5)++ZG).drop ((m-(i+1))*5));rw[<-ht]at gb tl;obtain⟨body,gT⟩:=ZQ (cs.take (i*5)++cs.drop ((i+1)*5));have bl:(O body)=(m-1)*5:=by
  rw[gT,aw,a7,nl,h5,bf HI,<-cf];congr 1
 rw[<-gT]at gb ⊢;have gb2:g[b]? = U (Z ((pre++body)++(tail.take 5++tail.drop 5)).toArray 25 (0,0)):=by
  rw[a6,a4];exact gb
 have e10:m-(m-1)=1:=nc;rw[e10];refine Ka (E:=25) (n:=5) (k:=1) AX wm rfl rfl gb2 (by rw[aw,h4,bl]) aad ?_;intro new iN;simp -implicitDefEqProofs only[go_sem];have kk:=kg.set h1 rfl (Z ((pre++body)++(new++tail.drop 5)).toArray 25 (0,0));refine⟨.inr ⟨b,off,cap,pre,new++tail.drop 5,h1,rfl,?_,h4,bl,?_,nc⟩,kk⟩
 .rw[ZS gb2,a4]
 .rw[aw,iN,a7,a3,tl,h6];have:(cap-(m-1))*5=(cap-m)*5+5:=by rw[<-bz];congr 1;omega
  omega
theorem bM(h:Hp)(o:Ow)(t:Tg)(v:au)(m i:Nat)(cs:List au)(s:Xz o t 135 14 h v m cs)(d:Vp o h)(XV:cs.all YC=true)(hi:i<m)(hm:m<=4611686018427387904):
  Zd aI T 73 #[v,Q J i,Q J ((i:Int)+1)] h fun v' h'=>Xz o t 135 14 h' v' (m-1) (cs.take (i*14)++cs.drop ((i+1)*14))/\Kp (fun u=>u=t) o h o h':=by
 rcases s with⟨⟨p,rfl⟩,rfl,rfl⟩|⟨b,off,cap,pre,ZG,h1,rfl,h3,h4,h5,h6,h7⟩
 .omega
 refine Zd.XS [_,_,_] Tryz.func73 ?_;have e1:(i:Int)<=m:=nc;have e2:(i:Int)+1<=m:=nc;have e3:(m:Int)<=cap:=nc;have e4:(i:Int)≠i+1:=nc;have e5:((i:Int)+1).toNat=i+1:=nc;have e6:(0:Int)<=i+1:=nc;have e7:(i:Int)<=i+1:=nc;have e8:(i:Int)<=cap:=nc;have c0:cap≠0:=nc;simp -implicitDefEqProofs only[go_sem,e1,e2,e3,e4,e5,e6,e7,e8];refine VS.z (h.size) [6] (.p 0 (.p 1 (.p 2 (.p 3 (.p 4 (.p 5 (.w 6 (.p 7 .nil)))))))) mixed uf ?_;simp -implicitDefEqProofs only[go_sem,e1,e2,e3,e4,e5,e6,e7,e8,c0];have HI:i*14<=m*14:=a9 _ nc;have Zud:(i+1)*14<=m*14:=a9 _ nc;have tC:m*14<=cap*14:=a9 _ h7;have ZX:h[b]? = U (Z (pre++(cs.take (i*14)++(cs.drop (i*14)++ZG))).toArray 135 (0,0)):=by
  rw[<-a4 (cn _ _),a6];exact h3
 have src:Sl 14 h (al (if cap=i+1 then U ⟨b,off,am⟩ else U ⟨b,off+(i+1)*14,am⟩) (m-(i+1)) (cap-(i+1))) (m-(i+1)) (cs.drop ((i+1)*14)):=by
  have:=(Xz.tail (k:=i+1) (.inr ⟨b,off,cap,pre,ZG,h1,rfl,h3,h4,h5,h6,h7⟩:Xz o t 135 14 h (al (U ⟨b,off,am⟩) m cap) m cs) nc).sl;rw[bC,XJ]at this;exact this
 have nl:(cs.drop ((i+1)*14)).length=(m-(i+1))*14:=by rw[a3,h5,bh]
 refine Gt (E:=135) (n:=14) (m:=i) (k:=m-(i+1)) (cs:=cs.take (i*14)) kQ cc wq kT ZX h4.symm aad src (be.2 fun x hx=>be.1 XV x (bR hx)) nc (by rw[aw,a3,h5,<-bh];have:(m-(i+1))*14<=(m-i)*14:=a9 _ nc;omega) ?_;obtain⟨g,hg⟩:=ZQ (h.setIfInBounds b (Z (pre++((cs.take (i*14)++cs.drop ((i+1)*14))++(cs.drop (i*14)++ZG).drop ((m-(i+1))*14))).toArray 135 (0,0)):Hp);rw[<-hg];have kg:Kp (fun u=>u=t) o h o g:=by rw[hg];exact (Kp.refl d (fun u=>u=t)).set h1 rfl _
 have gb:=ZS (o:=Z (pre++((cs.take (i*14)++cs.drop ((i+1)*14))++(cs.drop (i*14)++ZG).drop ((m-(i+1))*14))).toArray 135 (0,0)) h3;rw[<-hg]at gb;have e9:i+(m-(i+1))=m-1:=nc;have f1:((m-1:Nat):Int)<=m:=nc;have f2:(0:Int)<=((m-1:Nat):Int):=nc;have f3:cap≠m-1:=nc;have f4:(((m-1:Nat):Int)).toNat=m-1:=nc;have f5:(0:Int)<=m:=nc;have f6:((m-1:Nat):Int)<=cap:=nc;rw[e9];simp -implicitDefEqProofs only[go_sem,e3,f1,f2,f3,f4,f5,f6];have tl:((cs.drop (i*14)++ZG).drop ((m-(i+1))*14)).length=14+(O ZG):=by
  rw[a3,aw,a3,h5];have:(m-(i+1))*14+14=m*14-i*14:=by rw[<-bh,<-bz];congr 1;omega
  omega
 obtain⟨tail,ht⟩:=ZQ ((cs.drop (i*14)++ZG).drop ((m-(i+1))*14));rw[<-ht]at gb tl;obtain⟨body,gT⟩:=ZQ (cs.take (i*14)++cs.drop ((i+1)*14));have bl:(O body)=(m-1)*14:=by
  rw[gT,aw,a7,nl,h5,bf HI,<-cf];congr 1
 rw[<-gT]at gb ⊢;have gb2:g[b]? = U (Z ((pre++body)++(tail.take 14++tail.drop 14)).toArray 135 (0,0)):=by
  rw[a6,a4];exact gb
 have e10:m-(m-1)=1:=nc;rw[e10];refine Ka (E:=135) (n:=14) (k:=1) kQ kT rfl rfl gb2 (by rw[aw,h4,bl]) aad ?_;intro new iN;simp -implicitDefEqProofs only[go_sem];have kk:=kg.set h1 rfl (Z ((pre++body)++(new++tail.drop 14)).toArray 135 (0,0));refine⟨.inr ⟨b,off,cap,pre,new++tail.drop 14,h1,rfl,?_,h4,bl,?_,nc⟩,kk⟩
 .rw[ZS gb2,a4]
 .rw[aw,iN,a7,a3,tl,h6];have:(cap-(m-1))*14=(cap-m)*14+14:=by rw[<-bz];congr 1;omega
  omega
section
variable {α:Type} {enc:α->List au} {n:Nat}
theorem OR(Va:∀x,(enc x).length=n)(l:List α)(i:Nat)(hi:i<=(O l)):(ZT enc l).take (i*n)=ZT enc (l.take i):=by
 have h1:(ZT enc (l.take i)).length=i*n:=by rw[UO Va,a7,bf hi]
 have h2:ZT enc l=ZT enc (l.take i)++ZT enc (l.drop i):=by rw[<-Y8,a6]
 rw[h2,<-h1,List.take_left]
theorem Ri(Va:∀x,(enc x).length=n)(l:List α)(i:Nat)(hi:i<=(O l)):(ZT enc l).drop (i*n)=ZT enc (l.drop i):=by
 have h1:(ZT enc (l.take i)).length=i*n:=by rw[UO Va,a7,bf hi]
 have h2:ZT enc l=ZT enc (l.take i)++ZT enc (l.drop i):=by rw[<-Y8,a6]
 rw[h2,<-h1,List.drop_left]
theorem yW(Va:∀x,(enc x).length=n)(l:List α)(i:Nat)(hi:i<(O l))(y:α):ZT enc (l.set i y)=(ZT enc l).take (i*n)++(enc y++(ZT enc l).drop ((i+1)*n)):=by
 rw[List.set_eq_take_append_cons_drop,if_pos hi,Y8,OR Va _ _ nc,Ri Va _ _ nc];rfl
end
theorem ZcZ(l:List Cm):(ZT J2.C l).all YC=true:=by
 induction l with
 | nil=>rfl
 | cons x l ih=>rw[ZT,List.all_append,ih];rfl
theorem Sw{j:Nat}(hj:j<(O l))(q:Cm->Bool):(l.take (j+1)).filter q=(l.take j).filter q++if q l[j]=true then [l[j]] else []:=by
 rw[Y2 l j hj,List.filter_append]
 congr 1
 cases h:q l[j]<;>simp[h]
theorem bN{x:Cm}{i:Nat}(h:Rh l x=i):i<(O l)/\(l.take i).filter (fun y=>decide (y≠x))=l.take i/\l[i]? = U x:=by
 unfold Rh at h;split at h
 .rename_i hm;have hi:l.idxOf x=i:=nc;have h1:l.idxOf x<(O l):=bd hm;refine⟨nc,?_,?_⟩
  .rw[bT];intro y hy;obtain⟨k,hk,rfl⟩:=bk hy;rw[a7]at hk;rw[List.getElem_take];have:=bw (p:=(· == x)) (xs:=l) (i:=k) (show k<List.findIdx (· == x) l by rw[show List.findIdx (· == x) l=l.idxOf x from rfl];omega)
   simpa using this
  .rw[<-hi,ba h1,b8 h1]
 .omega
theorem bO(h:Hp)(o:Ow)(t:Tg)(v:au)(l:List Cm)(bx:Nat)(x:Cm)(s:We o t h v l)(d:Vp o h)(hb:Yb o h bx (Z x.C.toArray 25))(hl:(O l)<=4611686018427387904):
  Zd aI T 131 #[v,IG bx] h fun v' h'=>We o t h' v' (l.filter fun y=>decide (y≠x))/\Kp (fun u=>u=t) o h o h':=by
 have ts:Ts J2.C 5 h v l:=⟨s.sl⟩
 obtain⟨p,c,rfl,XE⟩:=QC ts;refine Zd.XS [_,_] Tryz.func131 ?_;unfold IG TM;simp -implicitDefEqProofs only[go_sem];refine (Fk T h _ l bx x ts hb.2 hl).use ?_;rintro _ h1 ⟨rfl,b1⟩;have k1:Kp (fun u=>u=t) o h o h1:=Kp.Gs d b1 _;by_cases hm:x∈l
 case neg=>
  have e:Rh l x = -1:=by unfold Rh;rw[if_neg hm]
  have e2:(l.filter fun y=>decide (y≠x))=l:=by
   rw[bT];intro y hy;simpa using fun q=>hm (by rw[<-q];exact hy)
  simp -implicitDefEqProofs only[go_sem,e,e2];exact⟨We.Zf (S:=fun _=>False) s (Kp.Gs d b1 _) id,k1⟩
 obtain⟨i0,Pg⟩:∃i:Nat,Rh l x=i:=⟨l.idxOf x,by unfold Rh;rw[if_pos hm]⟩
 obtain⟨hi,hf,hx⟩:=bN Pg;rcases s with⟨⟨q,h1'⟩,h2',h3'⟩|⟨b,off,cap,pre,ZG,o1,hv,o3,o4,o5,o6,o7⟩
 .omega
 simp only[Value.slice.injEq]at hv;obtain⟨rfl,_,rfl⟩:=hv;have i1:¬((i0:Nat):Int) = -1:=nc;simp -implicitDefEqProofs only[go_sem,Pg,i1];obtain⟨q,hq⟩:∃q:Cm->Bool,q=fun y=>decide ¬y=x:=⟨_,rfl⟩
 have hq':(fun y=>decide (y≠x))=q:=by rw[hq]
 have hqx:∀y,q y=decide ¬y=x:=fun y=>by rw[hq]
 rw[hq']at hf;rw[<-hq];have eu:l[i0]=x:=by rw[ba hi]at hx;exact Option.some.inj hx
 have sl:(O l)<=c:=o7;have el:∀L:List Cm,(ZT J2.C L).length=(O L)*5:=fun L=>UO (n:=5) Lv L;refine VS.Yj (fun F g=>F 0=al (U ⟨b,off,am⟩) (O l) c/\F 1=IG bx/\Kp (fun u=>u=t) o h o g/\∃(i j:Nat) (L:List Cm),F 5=Q J i/\F 6=Q J j/\j<=(O l)/\i<j/\(O L)=(O l)/\L.take i=(l.take j).filter q/\L.drop j=l.drop j/\i=((l.take j).filter q).length /\
   g[b]? = U (Z (pre++(ZT J2.C L++ZG)).toArray 25 (0,0)))
  (fun F _=>(O l)-(vi (F 6)).toNat) rfl ⟨rfl,rfl,k1,i0,i0+1,l,rfl,?_,nc,nc,rfl,?_,rfl,?_,b1.get (Za o3) o3⟩ ?_
 .show Value.int J _=_
  congr 1
 .rw[Sw hi,hf,eu,hqx,if_neg Hg,bg]
 .rw[Sw hi,hf,eu,hqx,if_neg Hg,bg,a7];omega
 rintro F g ⟨f0,f1,kg,i,j,L,f5,f6,hj,tp,hL,hLi,hLj,Ak,gb⟩;unfold IG TM at f1;simp only[ch]at f1;have gl:=Za gb;by_cases ZU:j<(O l)
 .have Z8:(j:Int)<(O l):=nc;have hjL:L[j]? = l[j]?:=by
   have:=congrArg (fun z=>z[0]?) hLj
   simpa using this
  have fa:j<(O L):=nc;have hjE:L[j]=l[j]:=by
   rw[ba fa,ba ZU]at hjL;exact Option.some.inj hjL
  have ow:Xz o t 25 5 g (al (U ⟨b,off,am⟩) (O L) c) (O L) (ZT J2.C L):=.inr ⟨b,off,c,pre,ZG,o1,rfl,gb,o4,el L,by rw[hL];exact o6,nc⟩;obtain⟨p2,c2,iE,F9⟩:=QC (⟨ow.sl⟩:Ts J2.C 5 g _ L);obtain⟨bb,oo,vQ,_,hr⟩:=F9 (by intro e;rw[e]at fa;simp at fa);subst vQ;simp only[Value.slice.injEq,Option.some.injEq,Addr.mk.injEq]at iE;obtain⟨⟨rfl,rfl,_⟩,_,rfl⟩:=iE;have r1:rd g ⟨b,off+j*5,am⟩ 5=U (l[j]).C:=by rw[hr j fa,hjE]
  simp -implicitDefEqProofs only[go_sem,f0,f1,f5,f6,Z8,r1];have bxg:=hb.Zf kg;have bxl:bx≠g.size:=by have:=Za bxg.2;omega
  refine (DI T _ bx x l[j] (by rw[ZJ (Za bxg.2)];exact bxg.2)).use ?_;rintro _ g1 ⟨rfl,b1'⟩;have bp:Zk g.size g g1:=(Zk.push (a8 _) _).trans (b1'.mono Hg);have kg1:Kp (fun u=>u=t) o h o g1:=kg.Yy bp;have gb1:=bp.get gl gb;have Zuh:g1[g.size]? = U (Z (l[j]).C.toArray 25):=b1'.get Hg Zc;have yr:rd g1 ⟨g.size,0,am⟩ 5=U (l[j]).C:=Zy Zuh rfl;have fs:=Sw ZU q;have hd1:∀L':List Cm,L'.drop j=l.drop j->L'.drop (j+1)=l.drop (j+1):=fun L' h=>by
   rw[<-bS,<-bS,h]
  by_cases hxj:l[j]=x
  .have fs':(l.take (j+1)).filter q=(l.take j).filter q:=by rw[fs,hqx,if_neg (by simp[hxj]),bg]
   simp -implicitDefEqProofs only[go_sem,hxj,f0,f1,f5,f6];refine⟨⟨f0,f1,kg1,i,j+1,L,f5,rfl,ZU,nc,hL,by rw[fs'];exact hLi,hd1 L hLj,by rw[fs'];exact Ak,gb1⟩,?_⟩;simp only[vi,Zr,↓reduceIte,f6];omega
  .have fs':(l.take (j+1)).filter q=(l.take j).filter q++[l[j]]:=by rw[fs,hqx,if_pos (by simp[hxj])]
   have i0':(0:Int)<=i:=nc;have i1':(i:Int)<(O l):=nc;have hiL:i<(O L):=nc;have w1:=Ye gb1 (off+i*5) (l[j]).C;have eL:Y9 (pre++(ZT J2.C L++ZG)) (off+i*5) (l[j]).C=pre++(ZT J2.C (L.set i l[j])++ZG):=by
    have e1:ZT J2.C L=(ZT J2.C L).take (i*5)++(((ZT J2.C L).drop (i*5)).take 5++(ZT J2.C L).drop ((i+1)*5)):=by
     have:(ZT J2.C L).drop ((i+1)*5)=((ZT J2.C L).drop (i*5)).drop 5:=by rw[bS];congr 1;omega
     rw[this,a6,a6]
    have hle:(i+1)*5<=(ZT J2.C L).length:=by rw[el];omega
    rw[yW Lv L i hiL]
    conv=>lhs;rw[e1]
    have e2:pre++(((ZT J2.C L).take (i*5)++(((ZT J2.C L).drop (i*5)).take 5++(ZT J2.C L).drop ((i+1)*5)))++ZG)=(pre++(ZT J2.C L).take (i*5))++(((ZT J2.C L).drop (i*5)).take 5++((ZT J2.C L).drop ((i+1)*5)++ZG)):=by simp only[a4]
    rw[e2,TY (by rw[aw,o4,a7];omega) (by rw[a7,a3,Lv];omega)];simp only[a4]
   rw[eL,if_pos ⟨by rw[aw,aw,o4,el,Lv];omega,yU _⟩]at w1;simp -implicitDefEqProofs only[go_sem,hxj,f0,f1,f5,f6,yr,i0',i1',w1];refine⟨⟨f0,f1,kg1.set o1 rfl _,i+1,j+1,L.set i l[j],rfl,rfl,ZU,nc,by rw[cg,hL],?_,?_,?_,ZS gb1⟩,?_⟩
   .rw[Y2 _ i (by rw[cg];exact hiL),List.take_set_of_le (a8 _),List.getElem_set_self,fs',<-hLi]
   .refine hd1 _ ?_;rw[<-hLj,List.drop_set_of_lt nc]
   .rw[fs',aw,<-Ak];rfl
   .simp only[vi,Zr,↓reduceIte,f6];omega
 .have Xp:¬(j:Int)<(O l):=nc;obtain rfl:j=(O l):=nc;rw[List.take_length]at hLi Ak;have hiL:i<=(O L):=nc;have gb2:g[b]? = U (Z ((pre++ZT J2.C (L.take i))++(ZT J2.C (L.drop i)++ZG)).toArray 25 (0,0)):=by
   rw[<-OR Lv L i hiL,<-Ri Lv L i hiL];have:(pre++(ZT J2.C L).take (i*5))++((ZT J2.C L).drop (i*5)++ZG)=pre++(ZT J2.C L++ZG):=by
    rw[a4,<-a4 (cn _ _),a6]
   rw[this];exact gb
  have tl:(ZT J2.C (L.take i)).length=i*5:=by rw[el,a7,bf hiL]
  simp -implicitDefEqProofs only[go_sem,f0,f5,f6,Xp];refine Ka (E:=25) (n:=5) (k:=(O l)-i) AX wm rfl rfl gb2 (by rw[aw,o4,tl]) (by rw[el,a3,hL]) ?_;intro new iN;have i2:(i:Int)<=c:=nc;simp -implicitDefEqProofs only[go_sem,i2,f0,f5];have e:(ZT J2.C (L.take i))=ZT J2.C (l.filter q):=by rw[hLi]
  refine⟨.inr ⟨b,off,c,pre,new++ZG,o1,by rw[<-Ak],?_,o4,el _,?_,nc⟩,kg.set o1 rfl _⟩
  .rw[ZS gb2,<-e,a4]
  .rw[aw,iN,el,a3,o6,hL,<-Ak,<-cf];congr 1;omega
@[go_sem] theorem Zui(x:Vt):Xd [U J,U J,U J,U J,U J,U J,U J,U J] (Zv x)=true:=rfl
@[go_sem] theorem Zuj(x y:Vt):leq (Zv x) (Zv y)=decide (x=y):=by
 obtain⟨a,⟨b,c⟩,d,e,f,g,k⟩:=x;obtain⟨a',⟨b',c'⟩,d',e',f',g',k'⟩:=y;unfold Zv;rw[bB];simp[leq,ceq,Vt.mk.injEq,and_assoc]
@[go_sem] theorem Zpm(x:Yw):Xd [U J,U J] (Qz x)=true:=rfl
@[go_sem] theorem Zpn(x y:Yw):leq (Qz x) (Qz y)=decide (x=y):=by
 obtain⟨a,b⟩:=x;obtain⟨a',b'⟩:=y;unfold Qz;rw[bB];simp[leq,ceq,Yw.mk.injEq]
@[go_sem] theorem ZlM(x:Vt):(Zv x).length=8:=rfl
theorem Fl{l:List Vt}(s:Ts Zv 8 h v l):∃p c,v=al p (O l) c/\(l≠[]->∃b o,p=U ⟨b,o,am⟩/\b<h.size/\∀i (hi:i<(O l)),rd h ⟨b,o+i*8,am⟩ 8=U (Zv l[i])):=by
 obtain⟨p,c,hv,hh⟩:=s.open ZlM aaa;refine⟨p,c,hv,fun Y4=>?_⟩;obtain⟨b,o,h1,h2,h3⟩:=hh Y4;exact⟨b,o,h1,h2,fun i hi=>(h3 i hi).rd (by simp[Zv]) rfl⟩
theorem iX(h:Hp)(v:au)(l:List Vt)(x:Vt)(s:Ts Zv 8 h v l)(hl:(O l)<=4611686018427387904):
  Zd aI T 134 #[v,a5 (Zv x).toArray] h fun v' h'=>(∃i:Int,v'=Q J i/\(0<=i↔x∈l))/\Zk h.size h h':=by
 obtain⟨p,c,rfl,XE⟩:=Fl s;refine Zd.XS [_,_] Tryz.func134 ?_;simp -implicitDefEqProofs only[go_sem];obtain⟨h1,Xk⟩:=ZQ (h.push (Z (Zv x).toArray 133):Hp);have b1:Zk h.size h h1:=by rw[Xk];exact Zk.push (a8 _) _
 have x1:h1[h.size]? = U (Z (Zv x).toArray 133):=by rw[Xk];exact Zc
 rw[<-Xk];clear Xk;refine VS.Yj (fun F g=>g=h1/\F 0=al p (O l) c/\F 3=a0 (U ⟨h.size,0,am⟩)/\F 7=Q J (O l)/\∃i:Nat,i<=(O l)/\F 8=Q J i/\∀j (hj:j<(O l)),j<i->l[j]≠x)
  (fun F _=>(O l)-(vi (F 8)).toNat) rfl ⟨rfl,rfl,rfl,rfl,0,nc,rfl,fun j hj q=>by omega⟩ ?_
 rintro F g ⟨rfl,f0,f3,f7,i,hi,f8,XY⟩;by_cases ZU:i<(O l)
 .have Z8:(i:Int)<(O l):=nc;obtain⟨bb,oo,rfl,Tm,GJ⟩:=XE (by intro e;rw[e]at ZU;simp at ZU);have r1:rd g ⟨bb,oo+i*8,am⟩ 8=U (Zv l[i]):=by rw[QU b1 (by exact Tm)];exact GJ i ZU
  have r0:rd g ⟨h.size,0,am⟩ 8=U (Zv x):=Zy x1 rfl;simp -implicitDefEqProofs only[go_sem,f0,f3,f7,f8,Z8];refine VS.q mixed uf ?_;simp -implicitDefEqProofs only[go_sem,f0,f3,f7,f8,Z8,r1,r0];by_cases q:l[i]=x
  .rw[q];simp -implicitDefEqProofs only[go_sem,b1];exact⟨_,rfl,fun _=>q▸bo ZU,fun _=>by omega⟩
  .have q':¬x=l[i]:=fun e=>q e.symm;simp -implicitDefEqProofs only[go_sem,q',f0,f3,f7,f8];refine⟨⟨rfl,f0,f3,f7,i+1,ZU,rfl,fun j hj TO=>?_⟩,?_⟩
   .by_cases e:j=i
    .subst e;exact q
    .exact XY j hj nc
   .simp only[vi,Zr,↓reduceIte,f8];omega
 .have Xp:¬(i:Int)<(O l):=nc;have hx:x ∉ l:=fun hm=>by obtain⟨j,hj,he⟩:=bk hm;exact XY j hj nc he
  simp -implicitDefEqProofs only[go_sem,f7,f8,Xp,b1,hx];exact⟨-1,rfl,fun q=>by omega,fun q=>q.elim⟩
theorem EK(h:Hp)(v:au)(l:List Vt)(x:Vt)(s:Ts Zv 8 h v l)(hl:(O l)<=4611686018427387904):
  Zd aI T 112 #[v,a5 (Zv x).toArray] h fun v' h'=>v'=aU (decide (x∈l))/\Zk h.size h h':=by
 obtain⟨p,c,rfl,XE⟩:=Fl s;refine Zd.XS [_,_] Tryz.func112 ?_;simp -implicitDefEqProofs only[go_sem];refine (iX T _ _ l x (s.Yy ((Zk.refl _ _).add _)) hl).use ?_;rintro _ h2 ⟨⟨i,rfl,hi⟩,b2⟩;have b:Zk h.size h h2:=((Zk.refl _ _).add _).trans (b2.mono Hg);simp -implicitDefEqProofs only[go_sem,hi,b]
theorem Lx(h:Hp)(a b:Yw):Zd aI T 92 #[a5 (Qz a).toArray,a5 (Qz b).toArray] h fun v' h'=>v'=aU (decide (ZL b a))/\Zk h.size h h':=by
 refine Zd.XS [_,_] Tryz.func92 ?_;unfold Qz;by_cases q1:b.r<a.r
 .have e:ZL b a:=.inl q1;simp -implicitDefEqProofs only[go_sem,q1,e]
  (repeat' (first|exact Zk.refl _ _|assumption|refine Zk.add ?_ _|refine Zk.Zt ?_ aab _|refine Zk.trans aac ?_))
 .by_cases q2:a.r=b.r
  .by_cases q3:b.n<a.n
   .have e:ZL b a:=.inr ⟨q2.symm,q3⟩;simp -implicitDefEqProofs only[go_sem,q1,q2,q3,e]
    (repeat' (first|exact Zk.refl _ _|assumption|refine Zk.add ?_ _|refine Zk.Zt ?_ aab _|refine Zk.trans aac ?_))
   .have e:¬ZL b a:=fun h=>by rcases h with h|⟨_,h⟩<;>omega
    simp -implicitDefEqProofs only[go_sem,q1,q2,q3,e]
    (repeat' (first|exact Zk.refl _ _|assumption|refine Zk.add ?_ _|refine Zk.Zt ?_ aab _|refine Zk.trans aac ?_))
  .have e:¬ZL b a:=fun h=>by rcases h with h|⟨h,_⟩<;>omega
   simp -implicitDefEqProofs only[go_sem,q1,q2,e]
   (repeat' (first|exact Zk.refl _ _|assumption|refine Zk.add ?_ _|refine Zk.Zt ?_ aab _|refine Zk.trans aac ?_))
theorem HJ(h:Hp)(n:Nat)(hn:n<=1000000000000):Zd aI T 109 #[Q J n] h fun v' h'=>v'=aU (decide (5<2*n))/\h'=h:=by
 refine Zd.XS [_] Tryz.func109 ?_;have e:((5:Int)<2*(n:Int))=(5<2*n):=by apply propext;omega
 simp -implicitDefEqProofs only[go_sem,e]
theorem We.ts{t:Tg}(s:We o t h v l):Ts J2.C 5 h v l:=⟨Xz.sl s⟩
theorem Ku{T:World}{K:au->Hp->Prop}{ty:TypeId}{t:Tg}{x:Cm}{bx:Nat}{cb:Array Bool}(s:We o t h v l)(d:Vp o h)(hb:h[bx]? = U (Z x.C.toArray 25))(hr:(O l)<=1000000000000)(H:∀p c o' h',We o' t h' (al p ((O l)+1) c) (l++[x])->Kp (fun u=>u=t) o h o' h'->K (al p ((O l)+1) c) h'):
  Pm aI T .append #[46,46] ty cb [v,al (U ⟨bx,0,am⟩) 1 1] K h:=by
 have src:Sl 5 h (al (U ⟨bx,0,am⟩) 1 1) 1 x.C:=⟨_,1,rfl,rfl,fun _=>⟨bx,0,rfl,fun i hi=>by
  rw[Zn hb,YR,Nat.zero_add];exact ba hi⟩⟩
 refine QV (E:=25) (n:=5) (bytes:=40) (k:=1) AX cd ZfU wm rfl ZjY s d src (yU x) nc nc ?_;intro v' o' h' w k _;obtain⟨p,c,rfl,_⟩:=w.ZP;refine H p c o' h' ?_ k;unfold We;rw[Y8,Te,aw];exact w
def ZgZ(i:Nat)(t:Tg):Prop:=t=.ZV i\/t=.Zx i
theorem yX(h:Hp)(o:Ow)(wb i nb:Nat)(a:NA)(n:Nd)(x:Cm)(d:Vp o h)(N:Z5 o h wb i nb a n)(hq:n.Zx.length<=1000000000000)(hl:n.ZB.length<=1000000000000):
  Zd aI T 68 #[Zz nb,Sg x] h fun v' h'=>∃o' a',Kp (ZgZ i) o h o' h'/\Z5 o' h' wb i nb a' (add n x):=by
 have TF:=Za N.ZX.2;have R:=ZR N.ZX.2 N.pt.store.len;refine Zd.XS [_,_] Tryz.func68 ?_;unfold Zz Sg;have e1:nb≠h.size:=nc;simp -implicitDefEqProofs only[go_sem];obtain⟨h1,Xk⟩:=ZQ (h.push (Z x.C.toArray 25):Hp);have k1:Kp Wy o h o h1:=by rw[Xk];exact Yt d _
 have x1:Yb o h1 h.size (Z x.C.toArray 25):=⟨d _ (a8 _),by rw[Xk];exact Zc⟩
 rw[<-Xk];have N1:=N.Zo k1;clear Xk;have R1:=ZR N1.ZX.2 N1.pt.store.len;have Q8:=Za N1.ZX.2;have hs1:=Za x1.2;have r1:rd h1 ⟨h.size,0,am⟩ 5=U x.C:=Zy x1.2 rfl;refine VS.z (h1.size) [13] (.p 0 (.p 1 (.p 2 (.q 3 (.q 4 (.s 5 (.p 6 (.p 7 (.p 8 (.p 9 (.p 10 (.q 11 (.q 12 (.w 13 (.p 14 (.p 15 .nil)))))))))))))))) mixed uf ?_;simp -implicitDefEqProofs only[go_sem,R1.Zx,Q8,r1,hs1];refine (Sv T h1 _ n.Zx x N1.pt.Zx.ts nc).use ?_;rintro _ h2 ⟨rfl,b2⟩;by_cases q1:x∈n.Zx
 .have e:add n x=n:=by unfold add;rw[if_pos (.inl q1)]
  simp -implicitDefEqProofs only[go_sem,q1,b2,e];exact⟨o,a,(Z1 k1).Yy b2,N1.Zo (ZY k1.Yn b2)⟩
 simp -implicitDefEqProofs only[go_sem,q1,b2,R1.ZB,Q8,r1,hs1];have k2:=ZY k1.Yn b2;refine (Sv T h2 _ n.ZB x (N1.Zo k2).pt.ZB.ts nc).use ?_;rintro _ h3 ⟨rfl,b3⟩;have b13:Zk h1.size h1 h3:=b2.trans (b3.mono b2.size);have k3:=ZY k1.Yn b13;by_cases q2:x∈n.ZB
 .have e:add n x=n:=by unfold add;rw[if_pos (.inr q2)]
  simp -implicitDefEqProofs only[go_sem,q2,b13,e];exact⟨o,a,(Z1 k1).Yy b13,N1.Zo k3⟩
 have e:add n x = { n with Zx:=n.Zx++[x] }:=by unfold add;rw[if_neg (fun q=>q.elim q1 q2)]
 simp -implicitDefEqProofs only[go_sem,q2,b13,e];have N3:=N1.Zo k3;have x3:=x1.Zf k3;have R3:=ZR N3.ZX.2 N3.pt.store.len;have Me:=Za N3.ZX.2;have hs3:=Za x3.2;have r3:rd h3 ⟨h.size,0,am⟩ 5=U x.C:=Zy x3.2 rfl;refine VS.z (h3.size) [7,10] (.p 0 (.p 1 (.p 2 (.p 3 (.q 4 (.q 5 (.s 6 (.w 7 (.p 8 (.p 9 (.w 10 .nil))))))))))) mixed uf ?_;simp -implicitDefEqProofs only[go_sem,R3.Zx,Me,r3,hs3];have k4:=Yt k3.Yn (Z x.C.toArray 25);have N4:=N3.Zo k4;refine Ku (l:=n.Zx) N4.pt.Zx k4.Yn Zc hq ?_;intro p c o5 h5 w5 k5;have b5:=N4.ZX.Zf k5 Ih;have W5:=XH b5.2 N4.pt.store.len;have w:=W5.Zx (al p (n.Zx.length+1) c) rfl;simp -implicitDefEqProofs only[go_sem,w];exact⟨o5,_,(((Z1 k1).Yy b13).push _).trans (k5.mono fun u q=>.inr q) |>.set b5.1 (.inl rfl) _,(N4.pt.DF k5 w5).put k5.Yn b5⟩
def Wf(i:Nat)(t:Tg):Prop:=t=.world\/t=.ZE\/t=.ZV i\/t=.Zi i\/t=.ZB i\/t=.Zx i\/t=.Zj i
theorem yZ{β:Type}:∀(l:List (Int × β)) (ks:List Int),ks.Nodup->(∀k∈ks,(Yh l k).isSome=true)->(O ks)<=(O l):=by
 intro l
 induction l with
 | nil=>
  intro ks _ h
  cases ks with
  | nil=>simp
  | cons k ks=>have:=h k Hg;simp[Yh]at this
 | cons x l ih=>
  intro ks hn h;obtain⟨a,v⟩:=x;have h1:(ks.erase a).length<=(O l):=ih _ (hn.erase a) fun k hk=>by
   have ML:=(List.Nodup.mem_erase_iff hn).1 hk;have:=h k ML.2;unfold Yh at this;rw[if_neg (fun e=>ML.1 e.symm)]at this;exact this
  have h2:(O ks)<=(ks.erase a).length+1:=by
   rw[List.length_erase];split<;>omega
  simp only[List.length_cons];omega
theorem Fm{β:Type}(l:List (Int × β))(a m:Nat)(h:∀j,j<m->(Yh l ((a+j:Nat):Int)).isSome=true):m<=(O l):=by
 have:=yZ l ((br m).map fun j=>((a+j:Nat):Int)) ?_ ?_
 .simpa using this
 .rw[List.nodup_iff_pairwise_ne,List.pairwise_map];exact (List.nodup_range (n:=m)).imp fun {x y} hxy he=>hxy nc
 .intro k hk;simp only[List.mem_map,List.mem_range]at hk;obtain⟨j,hj,rfl⟩:=hk;exact h j hj
theorem mf(h:Hp)(cs:List au)(s:Lu cs)(x:Cm):Zd aI T 21 #[a5 cs.toArray,Sg x] h fun v' h'=>v'=.tuple #[a5 (Fe cs x).toArray,a5 #[Q J (Oi cs x),Q J (IC cs x)],Q J (U7 cs x)]/\Zk h.size h h':=by
 refine (GO T h cs x.k x.c x.s x.n x.v s.fit s.num s.yes).mono ?_;rintro v' h' ⟨H,b⟩;refine⟨?_,b⟩;rw[H];unfold doL Fe Oi IC U7 X1;by_cases e:Nu cs x.k x.c x.s x.n x.v=0
 .rw[if_pos e,if_pos e,if_pos e,if_pos e,e]
 .rw[if_neg e,if_neg e,if_neg e,if_neg e]
theorem Lu.zc(h:Xd JJ cs=true):Lu cs:=⟨h,Mb h,IA h⟩
theorem Lu.do(s:Lu cs)(x:Cm):Lu (Fe cs x):=by
 obtain⟨D,a,b,h1,h2,_⟩:=lW s.fit x;refine Lu.zc ?_;unfold doL at h1;unfold Fe U7 X1;by_cases e:Nu cs x.k x.c x.s x.n x.v=0
 .rw[if_pos e]at h1 ⊢;simp only[List.cons.injEq,Value.agg.injEq,Array.mk.injEq]at h1;rw[h1.1];exact h2
 .rw[if_neg e]at h1 ⊢;simp only[List.cons.injEq,Value.agg.injEq,Array.mk.injEq]at h1;rw[h1.1];exact h2
theorem IH{T:World}{K:au->Hp->Prop}{ty:TypeId}{t:Tg}{l:List Ps}{x:Ps}{bx:Nat}{cb:Array Bool}(s:Xz o t 152 5 h v (O l) (ZT Fi l))(d:Vp o h)(hb:h[bx]? = U (Z (Fi x).toArray 152))(hr:(O l)<=1000000000000)(H:∀p c o' h',Xz o' t 152 5 h' (al p ((O l)+1) c) (l++[x]).length (ZT Fi (l++[x]))->Kp (fun u=>u=t) o h o' h'->K (al p ((O l)+1) c) h'):
  Pm aI T .append #[40,40] ty cb [v,al (U ⟨bx,0,am⟩) 1 1] K h:=by
 have src:Sl 5 h (al (U ⟨bx,0,am⟩) 1 1) 1 (Fi x):=⟨_,1,rfl,rfl,fun _=>⟨bx,0,rfl,fun i hi=>by
  rw[Zn hb,YR,Nat.zero_add];exact ba hi⟩⟩
 refine QV (E:=152) (n:=5) (bytes:=40) (k:=1) Zj3 Tryz.underlying40 Zkf Zkh rfl Zkg s d src rfl nc nc ?_;intro v' o' h' w k _;obtain⟨p,c,rfl,_⟩:=w.ZP;refine H p c o' h' ?_ k;rw[Y8,Te,aw];exact w
theorem ZZ.mg{o1:Ow}{h1:Hp}{wb:Nat}{nb:Nat->Nat}{a:WA}{fl:List YF}{Yv:Nat->Int}{ZE zd:List Ps}(W:ZZ o h wb nb a fl Yv ZE)(k:Kp (fun t=>t=.ZE) o h o1 h1)(hv:Xz o1 .ZE 152 5 h1 v (O zd) (ZT Fi zd)){e:Option Hp}(w:e=U (h1.setIfInBounds wb (Z (X7 Yv { a with ZE:=v }).toArray 97))):
  ∃g,e=U g/\ZZ o1 g wb nb { a with ZE:=v } fl Yv zd/\Kp (fun t=>t=.world) o1 h1 o1 g:=by
 have b:=W.ZX.Zf k Ih;have kk:Kp (fun t=>t=.world) o1 h1 o1 (h1.setIfInBounds wb (Z (X7 Yv { a with ZE:=v }).toArray 97)):=(Kp.refl k.Yn (fun t=>t=.world)).set b.1 rfl _;exact⟨_,w,⟨⟨b.1,ZS b.2⟩,(W.Zb.Zf k Ih).Zf kk Ih,(W.Zp.Zf k Ih).Zf kk Ih,hv.Zf kk Ih⟩,kk⟩
def mh:Option au->Nat
 | some (al _ l _)=>l
 | _=>0
set_option maxHeartbeats 1000000 in
theorem Fo(h:Hp)(o:Ow)(wb i nb:Nat)(YL:Nat->Nat)(a:NA)(n:Nd)(Xq:WA)(fl:List YF)(Yv:Nat->Int)(ZE:List Ps)(s:Int)(x:Cm)(d:Vp o h)(N:Z5 o h wb i nb a n)(W:ZZ o h wb YL Xq fl Yv ZE)(hk:n.Zi.length<=100000000000)(hl:n.ZB.length<=100000000000)(ht:(O ZE)<=100000000000)(hq:n.Zx.length<=1000000000000)(hw:n.Zj.length<=1000000000000):
  Zd aI T 110 #[Zz wb,Zz nb,Q J s,Sg x] h fun v' h'=>∃o' a' Jv,Kp (Wf i) o h o' h'/\Z5 o' h' wb i nb a' (Jg n s x).n/\ZZ o' h' wb YL Jv fl Yv (ZE++(Jg n s x).ts):=by
 have TF:=Za N.ZX.2;have Bw:=Za W.ZX.2;refine Zd.XS [_,_,_,_] Tryz.func110 ?_;unfold Zz Sg;simp -implicitDefEqProofs only[go_sem];obtain⟨h1,Xk⟩:=ZQ (h.push (Z x.C.toArray 25):Hp);have k1:Kp Wy o h o h1:=by rw[Xk];exact Yt d _
 have x1:Yb o h1 h.size (Z x.C.toArray 25):=⟨d _ (a8 _),by rw[Xk];exact Zc⟩
 rw[<-Xk];have N1:=N.Zo k1;have W1:=W.Zo k1;clear Xk;have R1:=ZR N1.ZX.2 N1.pt.store.len;have Q8:=Za N1.ZX.2;have hs1:=Za x1.2;have r1:rd h1 ⟨h.size,0,am⟩ 5=U x.C:=Zy x1.2 rfl;refine VS.z (h1.size) [6] (.p 0 (.p 1 (.p 2 (.q 3 (.p 4 (.q 5 (.w 6 .nil))))))) mixed (by kernel_rfl) ?_;simp -implicitDefEqProofs only[go_sem,R1.Zi,Q8,r1,hs1];have km:=Qb (K:=fun _ _=>True) (x:=a5 x.C.toArray) (n:=s) Re N1.pt.Zi.2 (P:=aI);rw[Qb Re N1.pt.Zi.2];have k2:Kp (fun t=>t=.Zi i) o h1 o (h1.setIfInBounds a.Zi (Jn (ins (Vu Sg n.Zi) s (a5 x.C.toArray)))):=(Kp.refl k1.Yn (fun t=>t=.Zi i)).set N1.pt.Zi.1 rfl _;have m2:UW o (.Zi i) (h1.setIfInBounds a.Zi (Jn (ins (Vu Sg n.Zi) s (a5 x.C.toArray)))) a.Zi (Vu Sg (ins n.Zi s x)):=
  ⟨N1.pt.Zi.1,by rw[ZS N1.pt.Zi.2,PG];rfl⟩
 have N2:Z5 o (h1.setIfInBounds a.Zi (Jn (ins (Vu Sg n.Zi) s (a5 x.C.toArray)))) wb i nb a (Jf n s x):=⟨N1.ZX.Zf k2 (by intro e;cases e),N1.pt.qA k2 m2⟩
 have W2:=W1.Zf k2 (by rintro t rfl;simp[Tg.of]);have K2:Kp (Wf i) o h o (h1.setIfInBounds a.Zi (Jn (ins (Vu Sg n.Zi) s (a5 x.C.toArray)))):=(Z1 k1).trans (k2.mono fun t q=>.inr (.inr (.inr (.inl q))));generalize (h1.setIfInBounds a.Zi (Jn (ins (Vu Sg n.Zi) s (a5 x.C.toArray))))=h2 at *;clear km;unfold Jg;obtain⟨L,hL⟩:=ZQ ((Jf n s x).Zi.length);have hLb:L<=100000000001:=by
  rw[hL];unfold Jf;simp only[NS];split<;>omega
 obtain⟨n0,CA⟩:=ZQ (Jf n s x);rw[<-CA]at N2 hL ⊢;rw[<-hL];have hl0:n0.ZB.length<=100000000000:=by rw[CA];exact hl
 have hq0:n0.Zx.length<=1000000000000:=by rw[CA];exact hq
 have hw0:n0.Zj.length<=1000000000000:=by rw[CA];exact hw
 clear N1 W1 R1 Q8 hs1 r1 k2 m2 N W hk hl hq hw CA k1 x1;simp -implicitDefEqProofs only[go_sem];refine VS.Yj (fun F g=>F 0=a0 (U ⟨wb,0,am⟩)/\F 1=a0 (U ⟨nb,0,am⟩)/\∃o' a' Jv m ts f j,Kp (Wf i) o h o' g/\Z5 o' g wb i nb a' m/\ZZ o' g wb YL Jv fl Yv (ZE++ts)/\f+j=L+1/\m.Zi=n0.Zi/\m.ZB.length=n0.ZB.length+j /\
   m.Zx.length<=1000000000000/\m.Zj.length<=1000000000000/\(O ts)<=j/\(∀j',j'<j->(Yh n0.Zi ((n0.ZB.length+j':Nat):Int)).isSome=true)/\(Yg (L+1) n0).1=(Yg f m).1/\(Yg (L+1) n0).2=ts++(Yg f m).2)
  (fun F g=>n0.ZB.length+L+2-mh (hc g ⟨nb,11,am⟩)) rfl ⟨rfl,rfl,o,a,Xq,n0,[],L+1,0,K2,N2,by rw[bg];exact W2,rfl,rfl,rfl,hq0,hw0,a8 _,fun j' h=>by omega,rfl,rfl⟩ ?_
 rintro F g ⟨f0,f1,o',a',Jv,m,ts,f,j,K,M,V,hf,kO,ej,hmq,hmw,hts,hjs,g1,g2⟩;have R:=ZR M.ZX.2 M.pt.store.len;have Zc0:=Za M.ZX.2;obtain⟨lp,lc,Kv,hlc⟩:=Xz.ZP M.pt.ZB;have mu:mh (hc g ⟨nb,11,am⟩)=m.ZB.length:=by rw[R.ZB,Kv];rfl
 rw[mu];have R11:=R.ZB;rw[Kv]at R11;have lk:=fun (K:au->Hp->Prop)=>Xc (K:=K) (n:=(m.ZB.length:Int)) (c:=true) Re Lt M.pt.Zi.2;have Sx:=fun (K:au->Hp->Prop) (x:Obj)=>Xc (h:=g.push x) (K:=K) (n:=(m.ZB.length:Int)) (c:=true) Re Lt ((ZJ (Za M.pt.Zi.2)).trans M.pt.Zi.2);rw[Jm]at lk;simp only[Jm]at Sx;simp -implicitDefEqProofs only[go_sem,f0,f1]
 cases hx:Yh m.Zi (m.ZB.length:Int) with
 | none=>
  rw[hx]at lk;simp only[hx,Option.map_none,Option.getD_none,Option.isSome_none,↓reduceIte]at lk Sx;have e:f≠0->Yg f m=(m,[]):=fun Y4=>by
   obtain⟨f',rfl⟩:∃f',f=f'+1:=⟨f-1,by omega⟩
   unfold Yg;rw[hx]
  have e':Yg f m=(m,[]):=by
   by_cases q:f=0
   .subst q;rfl
   .exact e q
  rw[e']at g1 g2;refine VS.mono (N:=fun F' g'=>Zk g.size g g'/\F' 9=aU false) ?_ ?_ (fun _ _ _ h=>h) (fun _ _ h=>h)
  .refine VS.z (g.size) [9,14] (.p 0 (.p 1 (.p 2 (.q 3 (.p 4 (.p 5 (.p 6 (.q 7 (.p 8 (.or 9 (.p 10 (.p 11 (.p 12 (.s 13 (.w 14 (.p 15 .nil)))))) (.s 13 (.w 9 (.p 10 (.p 11 (.p 12 (.w 14 (.p 15 .nil))))))))))))))))) mixed (by kernel_rfl) ?_;simp -implicitDefEqProofs only[go_sem,f0,f1,R.Zi,R11,Zc0,lk,Sx]
   repeat' (first|exact Zk.refl _ _|exact Zk.push (a8 _) _|refine co ?_ ?_)
  .rintro F' g' ⟨b,f9⟩;simp -implicitDefEqProofs only[go_sem,f9];rw[g1,g2,bg];exact⟨o',a',Jv,K.Yy b,M.Zo (ZY K.Yn b),V.Zo (ZY K.Yn b)⟩
 | some y=>
  rw[hx]at lk;simp only[hx,bC,Option.getD_some,Option.isSome_some,↓reduceIte]at lk Sx;refine VS.mono (N:=fun F' g'=>Zk g.size g g'/\F' 0=a0 (U ⟨wb,0,am⟩)/\F' 1=a0 (U ⟨nb,0,am⟩)/\F' 9=aU true/\F' 8=a0 (U ⟨g.size,0,am⟩)/\g'[g.size]? = U (Z y.C.toArray 25)) ?_ ?_ (fun _ _ _ h=>h) (fun _ _ h=>h)
  .refine VS.z (g.size) [9,14] (.p 0 (.p 1 (.p 2 (.q 3 (.p 4 (.p 5 (.p 6 (.q 7 (.p 8 (.or 9 (.p 10 (.p 11 (.p 12 (.s 13 (.w 14 (.p 15 .nil)))))) (.s 13 (.w 9 (.p 10 (.p 11 (.p 12 (.w 14 (.p 15 .nil))))))))))))))))) mixed (by kernel_rfl) ?_;simp -implicitDefEqProofs only[go_sem,f0,f1,R.Zi,R11,Zc0,lk,Sx,Sg];have gp:∀x:Obj,(g.push x)[g.size]? = U x:=fun x=>Zc
   repeat' (first|exact Zk.refl _ _|exact Zk.push (a8 _) _|exact gp _|refine co ?_ ?_)
  .rintro F2 g2 ⟨b2,f20,f21,f29,f28,x2⟩;simp -implicitDefEqProofs only[go_sem,f29];have kb:=ZY K.Yn b2;have M2:=M.Zo kb;have V2:=V.Zo kb;have bx2:Yb o' g2 g.size (Z y.C.toArray 25):=⟨K.Yn _ (a8 _),x2⟩
   have K2:=K.Yy b2;have PU:=Zc0;clear R R11 lk Sx Zc0 mu;have R2:=ZR M2.ZX.2 M2.pt.store.len;have Ui:=Za M2.ZX.2;have hs2:=Za x2;have r2:rd g2 ⟨g.size,0,am⟩ 5=U y.C:=Zy x2 rfl;refine VS.z (g2.size) [7,10] (.p 0 (.p 1 (.p 2 (.p 3 (.q 4 (.q 5 (.s 6 (.w 7 (.p 8 (.p 9 (.w 10 .nil))))))))))) mixed (by kernel_rfl) ?_;simp -implicitDefEqProofs only[go_sem,f20,f21,f28,R2.ZB,Ui,hs2,r2];have k3:=Yt K2.Yn (Z y.C.toArray 25);refine Ku (l:=m.ZB) (M2.Zo k3).pt.ZB k3.Yn Zc (by omega) ?_;intro p c o3 g3 w3 kk3;have k3':Kp (fun t=>t=.ZB i) o' g2 o3 g3:=(Z1 k3).trans kk3;have b3:=M2.ZX.Zf k3' (by intro e;cases e);have w:=(XH b3.2 M2.pt.store.len).ZB (al p (m.ZB.length+1) c) rfl;simp -implicitDefEqProofs only[go_sem,w];have M4:=(M2.pt.ZcX k3' w3).put k3'.Yn b3;have kn:Kp (fun t=>t=.ZV i) o3 g3 o3 (g3.setIfInBounds nb (Jb { m with ZB:=m.ZB++[y] } { a' with ZB:=al p (m.ZB.length+1) c })):=(Kp.refl k3'.Yn (fun t=>t=.ZV i)).set b3.1 rfl _;have V4:=(V2.Zf k3' (by rintro t rfl;simp[Tg.of])).Zf kn (by rintro t rfl;simp[Tg.of]);have x4:=(bx2.Zf k3').Zf kn;have K4:Kp (Wf i) o h o3 (g3.setIfInBounds nb (Jb { m with ZB:=m.ZB++[y] } { a' with ZB:=al p (m.ZB.length+1) c })):=
    (K2.trans (k3'.mono fun t q=>.inr (.inr (.inr (.inr (.inl q)))))).trans (kn.mono fun t q=>.inr (.inr (.inl q)))
   obtain⟨g4,He⟩:=ZQ (g3.setIfInBounds nb (Jb m { a' with ZB:=al p (m.ZB.length+1) c }));rw[show Jb { m with ZB:=m.ZB++[y] } { a' with ZB:=al p (m.ZB.length+1) c } = Jb m { a' with ZB:=al p (m.ZB.length+1) c } from rfl,<-He]at M4 V4 x4 K4;rw[<-He];clear He kn;have R4:=ZR M4.ZX.2 M4.pt.store.len;have Hf:=Za M4.ZX.2;have hs4:=Za x4.2;have r4:rd g4 ⟨g.size,0,am⟩ 5=U y.C:=Zy x4.2 rfl;have call:=fun G=>mf T G m.store M4.pt.store y;have R4s:rd g4 ⟨nb,12,am⟩ 40=U m.store:=R4.store;have hD:=(M4.pt.store.do y)
   have hD0:Fe ({ m with ZB:=m.ZB++[y] }:Nd).store y=Fe m.store y:=rfl;rw[hD0]at hD;obtain⟨D,hDe⟩:=ZQ (Fe m.store y);obtain⟨E,hE⟩:=ZQ (U7 m.store y);obtain⟨c1,Wr⟩:=ZQ (Oi m.store y);obtain⟨c2,F9⟩:=ZQ (IC m.store y);rw[<-hDe]at hD;rw[<-hDe,<-hE,<-Wr,<-F9]at call;have II:=hD.len;have eH:=hD.one;unfold Sg at call;have I0:=Z3 (zs:=Y1) (vs:=D) (by rw[II];rfl);unfold Y1 at I0;simp only[rep,List.cons_append,bA]at I0;have wA:∀(G:Hp) (k:Nat),G[k]? = U (Z Y1.toArray 55)->wr G ⟨k,0,am⟩ D=U (G.setIfInBounds k (Z D.toArray 55)):=fun G k hx=>by
    rw[Ye hx 0 D,Z3 (by rw[II];rfl),if_pos ⟨by rw[II];simp[Y1,rep],eH⟩]
   have wB:∀(G:Hp) (k:Nat),G[k]? = U (Z [Q J 0,Q J 0].toArray 51)->wr G ⟨k,0,am⟩ [Q J c1,Q J c2]=U (G.setIfInBounds k (Z [Q J c1,Q J c2].toArray 51)):=fun G k hx=>by
    rw[Ye hx 0 _];rfl
   have gl:∀(G:Hp) (X Y:Obj),((G.push X).push Y)[G.size]? = U X:=fun G X Y=>by rw[ZJ (by simp),Zc]
   have gs:∀(G:Hp) (k:Nat) (X Y:Obj),((G.setIfInBounds k X).push Y)[G.size]? = U Y:=fun G k X Y=>by
    have:=Zc (h:=G.setIfInBounds k X) (o:=Y);rwa [Array.size_setIfInBounds]at this
   have gl':=gs;have gr:∀(G:Hp) (X Y:Obj),((G.push X).push Y)[G.size+1]? = U Y:=fun G X Y=>by
    have:=Zc (h:=G.push X) (o:=Y);rwa [bc]at this
   refine VS.mono (N:=fun F' g'=>Zk g4.size g4 g'/\F' 0=a0 (U ⟨wb,0,am⟩)/\F' 1=a0 (U ⟨nb,0,am⟩)/\F' 8=a0 (U ⟨g.size,0,am⟩)/\∃A B,F' 10=a0 (U ⟨A,0,am⟩)/\F' 11=a0 (U ⟨B,0,am⟩)/\g4.size<=A/\g4.size<=B/\g'[A]? = U (Z D.toArray 55)/\g'[B]? = U (Z [Q J c1,Q J c2].toArray 51)) ?_ ?_ (fun _ _ _ h=>h) (fun _ _ h=>h)
   .refine VS.z (g4.size) [5,12,13] (.p 0 (.p 1 (.p 2 (.q 3 (.q 4 (.or 5 (.p 6 (.p 7 (.p 8 (.p 9 (.or 10 (.s 11 (.w 12 (.w 13 (.p 14 .nil)))) (.s 11 (.s 10 (.w 12 (.w 13 (.p 14 .nil)))))))))) (.or 10 (.or 5 (.p 6 (.p 7 (.p 8 (.p 9 (.s 11 (.w 12 (.w 13 (.p 14 .nil)))))))) (.s 11 (.w 5 (.p 6 (.p 7 (.p 8 (.p 9 (.w 12 (.w 13 (.p 14 .nil)))))))))) (.s 11 (.or 5 (.p 6 (.p 7 (.p 8 (.p 9 (.s 10 (.w 12 (.w 13 (.p 14 .nil)))))))) (.s 10 (.w 5 (.p 6 (.p 7 (.p 8 (.p 9 (.w 12 (.w 13 (.p 14 .nil)))))))))))))))))) mixed (by kernel_rfl) ?_;simp -implicitDefEqProofs only[go_sem,f20,f21,f28,R4s,Hf,hs4,r4]
    repeat' (first|with_reducible exact Zk.refl _ _|with_reducible exact Zk.push (by omega) _|with_reducible refine co ?_ ?_)
    all_goals first
     | (refine (call g4).use ?_
        rintro _ g5 ⟨rfl,b5⟩;have s5:=b5.size;simp -implicitDefEqProofs only[go_sem,b5,II,eH,I0];refine⟨⟨f20,f21,f28,_,_,rfl,rfl,s5,by omega,gl _ _ _,gr _ _ _⟩,⟨f20,f21,f28,_,_,rfl,rfl,by omega,s5,gr _ _ _,gl _ _ _⟩⟩)
     | (refine (call (g4.push (Z _ 55))).use ?_
        rintro _ g5 ⟨rfl,b5⟩;have s5:=b5.size;rw[bc]at s5;have B5:Zk g4.size g4 g5:=(Zk.push (a8 _) _).trans (b5.mono (by simp));have xA:=b5.get (k:=g4.size) (by simp) Zc;have Pc:=wA _ _ xA;have zA:=Za xA;have gA:=ZS (o:=Z D.toArray 55) xA;simp -implicitDefEqProofs only[go_sem,B5,II,eH,Pc,zA];exact⟨f20,f21,f28,_,_,rfl,rfl,a8 _,by omega,by rw[ZJ (by simpa using zA)];exact gA,gs _ _ _ _⟩)
     | (refine (call (g4.push (Z _ 51))).use ?_
        rintro _ g5 ⟨rfl,b5⟩;have s5:=b5.size;rw[bc]at s5;have B5:Zk g4.size g4 g5:=(Zk.push (a8 _) _).trans (b5.mono (by simp));have xB:=b5.get (k:=g4.size) (by simp) Zc;have Fp:=wB _ _ xB;have zB:=Za xB;have gB:=ZS (o:=Z [Q J c1,Q J c2].toArray 51) xB;simp -implicitDefEqProofs only[go_sem,B5,II,eH,Fp,I0,zB];exact⟨f20,f21,f28,_,_,rfl,rfl,by omega,a8 _,gl' _ _ _ _,by rw[ZJ (by simpa using zB)];exact gB⟩)
     | (refine (call ((g4.push (Z _ 55)).push (Z _ 51))).use ?_
        rintro _ g5 ⟨rfl,b5⟩;have s5:=b5.size;rw[bc,bc]at s5;have B5:Zk g4.size g4 g5:=((Zk.push (a8 _) _).YU (by simp) _).trans (b5.mono (by simp;omega));have xA:=b5.get (k:=g4.size) (by simp;omega) (gl _ _ _);have xB:=b5.get (k:=g4.size+1) (by simp) (gr _ _ _);have Pc:=wA _ _ xA;have zA:=Za xA;have Kw:=(Xa (o:=Z D.toArray 55) (show g4.size≠g4.size+1 by omega)).trans xB;have Fp:=wB _ _ Kw;have zB:=Za Kw;simp -implicitDefEqProofs only[go_sem,B5,II,eH,Pc,zA,Fp,zB];exact⟨f20,f21,f28,_,_,rfl,rfl,by omega,by omega,(Xa (by omega)).trans (ZS xA),ZS Kw⟩)
     | (refine (call ((g4.push (Z _ 51)).push (Z _ 55))).use ?_
        rintro _ g5 ⟨rfl,b5⟩;have s5:=b5.size;rw[bc,bc]at s5;have B5:Zk g4.size g4 g5:=((Zk.push (a8 _) _).YU (by simp) _).trans (b5.mono (by simp;omega));have xB:=b5.get (k:=g4.size) (by simp;omega) (gl _ _ _);have xA:=b5.get (k:=g4.size+1) (by simp) (gr _ _ _);have Pc:=wA _ _ xA;have zA:=Za xA;have Kw:=(Xa (o:=Z D.toArray 55) (show g4.size+1≠g4.size by omega)).trans xB;have Fp:=wB _ _ Kw;have zB:=Za Kw;simp -implicitDefEqProofs only[go_sem,B5,II,eH,Pc,zA,Fp,zB];exact⟨f20,f21,f28,_,_,rfl,rfl,by omega,by omega,(Xa (by omega)).trans (ZS xA),ZS Kw⟩)
   .rintro F5 g5 ⟨b5,f50,f51,f58,A,B,f5A,f5B,hA,hB,yA,yB⟩;have DJ:=ZY K4.Yn b5;have M5:=M4.Zo DJ;have V5:=V4.Zo DJ;have x5:=x4.Zf DJ;have K5:=K4.Yy b5;have z5:=Za M5.ZX.2;have rA:rd g5 ⟨A,0,am⟩ 40=U D:=Zy yA II;obtain⟨g6,w6,M6,k6⟩:=Yi.write (n:={ m with ZB:=m.ZB++[y],store:=D }) { M5.pt with store:=hD } K5.Yn M5.ZX ((XH M5.ZX.2 M5.pt.store.len).store D II eH);have V6:=V5.Zf k6 (by rintro t rfl;simp[Tg.of]);have x6:=x5.Zf k6;have K6:Kp (Wf i) o h o3 g6:=K5.trans (k6.mono fun t q=>.inr (.inr (.inl q)));have xB6:=(show Yb o3 g5 B _ from⟨K4.Yn _ (by omega),yB⟩).Zf k6;have R6:=ZR M6.ZX.2 II;have z6:=Za M6.ZX.2;clear R4 R4s Hf hs4 r4 R2 Ui hs2 r2;simp -implicitDefEqProofs only[go_sem,f50,f51,f58,f5A,f5B,rA,w6,II,R6.Zx,z5];refine (bO T g6 o3 (.Zx i) _ m.Zx g.size y M6.pt.Zx K6.Yn x6 (by omega)).use ?_;rintro v7 g7 ⟨q7,k7⟩;obtain⟨p7,c7,rfl,_⟩:=Xz.ZP q7;have b7:=M6.ZX.Zf k7 (by intro e;cases e);obtain⟨g8,w8,M8,k8⟩:=(M6.pt.DF k7 q7).write k7.Yn b7 ((XH b7.2 II).Zx (al p7 _ c7) rfl);have z7:=Za b7.2;have V8:=(V6.Zf k7 (by rintro t rfl;simp[Tg.of])).Zf k8 (by rintro t rfl;simp[Tg.of]);have x8:=(x6.Zf k7).Zf k8;have xB8:=(xB6.Zf k7).Zf k8;have K8:Kp (Wf i) o h o3 g8:=(K6.trans (k7.mono fun t q=>.inr (.inr (.inr (.inr (.inr (.inl q))))))).trans (k8.mono fun t q=>.inr (.inr (.inl q)));have R8:=ZR M8.ZX.2 II;have z8:=Za M8.ZX.2;simp -implicitDefEqProofs only[go_sem,f50,f51,f58,w8,z7,R8.Zj];refine (Fk T g8 _ m.Zj g.size y M8.pt.Zj.ts x8.2 (by omega)).use ?_;rintro _ g9 ⟨rfl,b9⟩;have kb9:=ZY K8.Yn b9;have M9:=M8.Zo kb9;have V9:=V8.Zo kb9;have x9:=x8.Zf kb9;have xB9:=xB8.Zf kb9;have K9:=K8.Yy b9;have Pa:∃f',f=f'+1:=⟨f-1,by
     have:f≠0:=fun q=>by
      subst q;have hj:j=L+1:=by omega
      have:=Fm n0.Zi n0.ZB.length (L+2) fun j' hj'=>by
       by_cases q:j'<j
       .exact hjs j' q
       .have:j'=j:=by omega
        subst this;rw[<-ej,<-kO,hx];rfl
      rw[<-hL]at this;omega
     omega⟩
    obtain⟨f',rfl⟩:=Pa;have lg:Yg (f'+1) m=((Yg f' (JU m y)).1,WJ m y++(Yg f' (JU m y)).2):=by
     rw[Yg,hx]
    rw[lg]at g1 g2;have ZlP:∀j',j'<j+1->(Yh n0.Zi ((n0.ZB.length+j':Nat):Int)).isSome=true:=fun j' hj'=>by
     by_cases q:j'<j
     .exact hjs j' q
     .have:j'=j:=by omega
      subst this;rw[<-ej,<-kO,hx];rfl
    have hfl:(m.Zx.filter fun z=>decide (z≠y)).length<=m.Zx.length:=List.length_filter_le _ _;have mono:∀(G:Hp) (nn:Nd) (aa:NA) (oo:Ow),Z5 oo G wb i nb aa nn->nn.ZB.length=m.ZB.length+1->n0.ZB.length+L+2-mh (hc G ⟨nb,11,am⟩)<n0.ZB.length+L+2-m.ZB.length:=fun G nn aa oo H hh=>by
     have RR:=ZR H.ZX.2 H.pt.store.len;obtain⟨lp,lc,Kv,hlc⟩:=Xz.ZP H.pt.ZB;have:mh (hc G ⟨nb,11,am⟩)=nn.ZB.length:=by rw[RR.ZB,Kv];rfl
     rw[this,hh];omega
    by_cases hy:y∈m.Zj
    case neg=>
     have e1:Rh m.Zj y = -1:=by unfold Rh;rw[if_neg hy]
     have e2:WJ m y=[]:=by unfold WJ;rw[if_neg hy]
     have e3:m.Zj.erase y=m.Zj:=List.erase_of_not_mem hy;rw[e2]at g2;have e4:JU m y = { m with ZB:=m.ZB++[y],store:=D,Zx:=m.Zx.filter (fun z=>decide (z≠y)) }:=by unfold JU;rw[e3,<-hDe]
     rw[e4]at g1 g2;rw[bA]at g2;simp -implicitDefEqProofs only[go_sem,e1];unfold XK;refine⟨⟨f50,f51,o3,_,Jv,_,ts,f',j+1,K9,M9,V9,by omega,kO,by simp[ej];omega,by simp only;omega,hmw,by omega,ZlP,g1,g2⟩,mono _ _ _ _ M9 (by simp)⟩
    have e1:0<=Rh m.Zj y:=(Lw _ _).2 hy;have e5:Rh m.Zj y=(m.Zj.idxOf y:Nat):=by unfold Rh;rw[if_pos hy]
    obtain⟨r,hr⟩:=ZQ (m.Zj.idxOf y);have hrl:r<m.Zj.length:=by rw[hr];exact bd hy
    rw[<-hr]at e5;have e2:WJ m y=[⟨m.me,y.c,y.s,Oi m.store y,IC m.store y⟩]:=by unfold WJ;rw[if_pos hy]
    have e3:m.Zj.erase y=m.Zj.take r++m.Zj.drop (r+1):=by
     rw[List.erase_eq_eraseIdx_of_idxOf,List.eraseIdx_eq_take_drop_succ];exact hr.symm
    rw[e2]at g2;have R9:=ZR M9.ZX.2 II;have z9:=Za M9.ZX.2;simp -implicitDefEqProofs only[go_sem,e1,e5,f50,f51,f58,R9.Zj,z9];refine (bL T g9 o3 (.Zj i) _ m.Zj.length r _ M9.pt.Zj K9.Yn (ZcZ _) hrl (by omega)).use ?_;rintro v10 g10 ⟨q10,qB⟩;have wl:(m.Zj.erase y).length=m.Zj.length-1:=by rw[e3,aw,a7,a3];omega
    have Q10:We o3 (.Zj i) g10 v10 (m.Zj.erase y):=by
     unfold We;rw[wl,e3,Y8,<-OR Lv _ _ (by omega),<-Ri Lv _ _ (by omega)];exact q10
    obtain⟨p10,c10,rfl,_⟩:=Xz.ZP Q10;have b10:=M9.ZX.Zf qB (by intro e;cases e);obtain⟨g11,w11,M11,tX⟩:=(M9.pt.IF qB Q10).write qB.Yn b10 ((XH b10.2 II).Zj (al p10 _ c10) rfl);have z10:=Za b10.2;have V11:=(V9.Zf qB (by rintro t rfl;simp[Tg.of])).Zf tX (by rintro t rfl;simp[Tg.of]);have x11:=(x9.Zf qB).Zf tX;have ZlQ:=(xB9.Zf qB).Zf tX;have K11:Kp (Wf i) o h o3 g11:=(K9.trans (qB.mono fun t q=>.inr (.inr (.inr (.inr (.inr (.inr q))))))).trans (tX.mono fun t q=>.inr (.inr (.inl q)));have R11:=ZR M11.ZX.2 II;have z11:=Za M11.ZX.2;have U11:=XP V11.ZX.2;have Zuq:=Za V11.ZX.2;have rx1:hc g11 ⟨g.size,1,am⟩=U (Q J y.c):=Zn x11.2;have rx2:hc g11 ⟨g.size,2,am⟩=U (Q J y.s):=Zn x11.2;have rB:rd g11 ⟨B,0,am⟩ 2=U [Q J c1,Q J c2]:=Zy ZlQ.2 rfl;have Zus:=Za x11.2;have Zut:=Za ZlQ.2;simp -implicitDefEqProofs only[go_sem,w11,z10];refine VS.z (g11.size) [17,21] (.p 0 (.p 1 (.p 2 (.p 3 (.p 4 (.q 5 (.p 6 (.p 7 (.p 8 (.q 9 (.p 10 (.q 11 (.p 12 (.q 13 (.q 14 (.p 15 (.s 16 (.w 17 (.p 18 (.p 19 (.p 20 (.w 21 .nil)))))))))))))))))))))) mixed (by kernel_rfl) ?_;simp -implicitDefEqProofs only[go_sem,f50,f51,f58,f5B,U11.ZE,R11.me,rx1,rx2,rB,z11,Zuq,Zus,Zut];have k12:=Yt K11.Yn (Z (Fi ⟨m.me,y.c,y.s,c1,c2⟩).toArray 152);have V12:=V11.Zo k12;refine IH (l:=ZE++ts) (x:=⟨m.me,y.c,y.s,c1,c2⟩) V12.ZE k12.Yn Zc (by rw[aw];omega) ?_;intro p13 c13 o13 g13 q13 k13;have b13:=V12.ZX.Zf k13 (by intro e;cases e);obtain⟨g14,w14,V14,k14⟩:=V12.mg k13 q13 ((XP b13.2).ZeX (al p13 _ c13) rfl);have z13:=Za b13.2;simp -implicitDefEqProofs only[go_sem,w14,z13];have M14:=((M11.Zo k12).Zf k13 (by rintro t rfl;simp[Tg.of])).Zf k14 (by rintro t rfl;simp[Tg.of]);have K14:Kp (Wf i) o h o13 g14:=(((K11.trans (Z1 k12)).trans (k13.mono fun t q=>.inr (.inl q))).trans (k14.mono fun t q=>.inl q))
    have e4:JU m y = { m with ZB:=m.ZB++[y],store:=D,Zx:=m.Zx.filter (fun z=>decide (z≠y)),Zj:=m.Zj.erase y }:=by unfold JU;rw[<-hDe]
    rw[e4]at g1 g2;rw[<-Wr,<-F9]at g2;obtain⟨ZGU,V15⟩:∃A,ZZ o13 g14 wb YL A fl Yv (ZE++(ts++[⟨m.me,y.c,y.s,c1,c2⟩])):=⟨_,by rw[<-a4];exact V14⟩
    rw[<-a4]at g2;unfold XK;refine⟨⟨f50,f51,o13,_,_,_,ts++[⟨m.me,y.c,y.s,c1,c2⟩],f',j+1,K14,M14,V15,by omega,kO,by simp[ej];omega,by simp only;omega,by simp only;omega,by simp;omega,ZlP,g1,g2⟩,mono _ _ _ _ M14 (by simp)⟩
def ZlR(o:Ow)(h:Hp)(wb:Nat)(YL:Nat->Nat)(fl:List YF)(Yv:Nat->Int)(ZE:List Ps)(h':Hp):Prop:=
 ∃o' Jv,Kp mb o h o' h'/\ZZ o' h' wb YL Jv fl Yv ZE
theorem mi(h:Hp)(o:Ow)(wb nb:Nat)(YL:Nat->Nat)(me:Nat)(Xq:WA)(fl:List YF)(Yv:Nat->Int)(ZE:List Ps)(b3 b4 b5 b7:Nat)(l:YF)(w5 w:au)(vs:List Vt)(d:Vp o h)(W:ZZ o h wb YL Xq fl Yv ZE)(EJ:hc h ⟨nb,0,am⟩=U (Q J me))(TF:nb<h.size)(Y7:(O fl)<=1000000000000)(x3:Yb o h b3 (Z [Zz wb].toArray 91))(x4:Yb o h b4 (Z [Zz nb].toArray 98))(x5:Yb o h b5 (Z (XN l w5).toArray 135))(x7:Yb o h b7 (Z [w].toArray 103))(iv:TD o h w vs):
  Zd aI T 106 #[Zz b3,Zz b4,Zz b5,Zz b7] h fun v' h'=>ZlR o h wb YL (fl++[⟨1,me,l.Jq,l.b,St,vs⟩]) Yv ZE h':=by
 obtain⟨pw,cw,rfl⟩:=iv.ZP;refine Zd.XS [_,_,_,_] Tryz.func106 ?_;unfold Zz;have r3:hc h ⟨b3,0,am⟩=U (Zz wb):=Zn x3.2;have r4:hc h ⟨b4,0,am⟩=U (Zz nb):=Zn x4.2;have r5:hc h ⟨b5,1,am⟩=U (Q J l.Jq):=Zn x5.2;have r6:rd h ⟨b5,3,am⟩ 2=U [Q J l.b.r,Q J l.b.n]:=by rw[YJ x5.2 (by simp[XN])];rfl
 have r7:hc h ⟨b7,0,am⟩=U (al pw (O vs) cw):=Zn x7.2;simp -implicitDefEqProofs only[go_sem,r3,r4,r5,r6,r7];refine (VR T h o wb nb YL me Xq fl Yv ZE l.Jq ⟨1,0,0,l.b,St,vs⟩ _ d W EJ TF iv Y7).use ?_;rintro v' h' ⟨o',Jv,k,_,W'⟩;simp -implicitDefEqProofs only[go_sem];exact⟨o',Jv,k,W'⟩
theorem mj(h:Hp)(o:Ow)(wb nb:Nat)(YL:Nat->Nat)(me:Nat)(Xq:WA)(fl:List YF)(Yv:Nat->Int)(ZE:List Ps)(b3 b4 b5:Nat)(l:YF)(w5:au)(d:Vp o h)(W:ZZ o h wb YL Xq fl Yv ZE)(EJ:hc h ⟨nb,0,am⟩=U (Q J me))(TF:nb<h.size)(Y7:(O fl)<=1000000000000)(x3:Yb o h b3 (Z [Zz wb].toArray 91))(x4:Yb o h b4 (Z [Zz nb].toArray 98))(x5:Yb o h b5 (Z (XN l w5).toArray 135)):
  Zd aI T 111 #[Zz b3,Zz b4,Zz b5] h fun v' h'=>ZlR o h wb YL (fl++[⟨3,me,l.Jq,Jj,l.v,[]⟩]) Yv ZE h':=by
 refine Zd.XS [_,_,_] Tryz.func111 ?_;unfold Zz;have r3:hc h ⟨b3,0,am⟩=U (Zz wb):=Zn x3.2;have r4:hc h ⟨b4,0,am⟩=U (Zz nb):=Zn x4.2;have r5:hc h ⟨b5,1,am⟩=U (Q J l.Jq):=Zn x5.2;have r6:rd h ⟨b5,5,am⟩ 8=U (Zv l.v):=by rw[YJ x5.2 (by simp[XN])];rfl
 unfold Zv at r6;simp -implicitDefEqProofs only[go_sem,r3,r4,r5,r6];refine (VR T h o wb nb YL me Xq fl Yv ZE l.Jq ⟨3,0,0,Jj,l.v,[]⟩ (al am 0 0) d W EJ TF (Im.nil _ _ _ _) Y7).use ?_;rintro v' h' ⟨o',Jv,k,_,W'⟩;simp -implicitDefEqProofs only[go_sem];exact⟨o',Jv,k,W'⟩
def Zg3(i:Nat)(t:Tg):Prop:=t=.world\/t=.Zp\/t=.ZV i\/t=.ZI i\/t=.X3 i
theorem Zc2(h:Hp)(o:Ow)(wb i nb:Nat)(YL:Nat->Nat)(Xq:WA)(fl:List YF)(Yv:Nat->Int)(ZE:List Ps)(a:NA)(n:Nd)(acc:UC)(to:Int)(b:Yw)(vs:List Vt)(b6 b4 b9:Nat)(u:au)(d:Vp o h)(N:Z5 o h wb i nb a n)(W:ZZ o h wb YL Xq fl Yv ZE)(Y7:(O fl)<=1000000000000)(x6:Ol o h b6 acc)(x4:Yb o h b4 (Z [Zz nb].toArray 98))(x9:Yb o h b9 (Z [u].toArray 1))(hu:yQ o h wb nb u to b vs):
  Zd aI T 108 #[Zz b6,Zz b4,Zz b9] h fun v' h'=>∃o' a' Jv,Kp (Zg3 i) o h o' h'/\Z5 o' h' wb i nb a' { n with Zq:=acc }/\ZZ o' h' wb YL Jv (fl++[⟨1,n.me,to,b,St,vs⟩]) Yv ZE:=by
 obtain⟨wa,xa,ia⟩:=x6;obtain⟨pa,ca,rfl⟩:=ia.ZP;obtain⟨b3,gW,b5,b7,l,w5,w,rfl,y3,y4,y5,rfl,rfl,y7,iv⟩:=hu;have TF:=Za N.ZX.2;refine Zd.XS [_,_,_] Tryz.func108 ?_;unfold Zz;have r4:hc h ⟨b4,0,am⟩=U (Zz nb):=Zn x4.2;have r6:rd h ⟨b6,0,am⟩ 3=U [Q J acc.p.r,Q J acc.p.n,al pa (O acc.l) ca]:=Zy xa.2 rfl;obtain⟨g1,w1,N1,k1⟩:=Yi.write (a:={ a with XO:=al pa (O acc.l) ca }) (n:={ n with Zq:=acc }) { N.pt with XO:=ia } d N.ZX ((XH N.ZX.2 N.pt.store.len).Zq acc.p.r acc.p.n (al pa (O acc.l) ca) rfl);have W1:=W.Zf k1 (by rintro t rfl;simp[Tg.of]);have x91:=x9.Zf k1;have r9:hc g1 ⟨b9,0,am⟩=U (TM 106 [b3,gW,b5,b7]):=Zn x91.2;unfold TM at r9;simp only[ch]at r9;unfold Zz at r4 r9;simp -implicitDefEqProofs only[go_sem,r4,r6,w1,TF,r9];have R1:=ZR N1.ZX.2 N1.pt.store.len;refine (mi T g1 o wb nb YL n.me Xq fl Yv ZE b3 gW b5 b7 l w5 w vs k1.Yn W1 R1.me (Za N1.ZX.2) Y7 (y3.Zf k1) (y4.Zf k1) (y5.Zf k1) (y7.Zf k1) (iv.Zf k1)).use ?_;rintro v' h' ⟨o',Jv,k,W'⟩;simp -implicitDefEqProofs only[go_sem];exact⟨o',_,Jv,(k1.mono fun t q=>.inr (.inr (.inl q))).trans (k.mono fun t q=>q.elim .inl fun q=>.inr (.inl q)),N1.Zf k (by rintro t (rfl|rfl)<;>simp[Tg.of]),W'⟩
theorem Zc3(h:Hp)(o:Ow)(wb i nb:Nat)(YL:Nat->Nat)(Xq:WA)(fl:List YF)(Yv:Nat->Int)(ZE:List Ps)(a:NA)(n:Nd)(acc:UC)(to:Int)(x:Vt)(b6 b4 b9:Nat)(u:au)(d:Vp o h)(N:Z5 o h wb i nb a n)(W:ZZ o h wb YL Xq fl Yv ZE)(Y7:(O fl)<=1000000000000)(x6:Ol o h b6 acc)(x4:Yb o h b4 (Z [Zz nb].toArray 98))(x9:Yb o h b9 (Z [u].toArray 1))(hu:yR o h wb nb u to x):
  Zd aI T 114 #[Zz b6,Zz b4,Zz b9] h fun v' h'=>∃o' a' Jv,Kp (Zg3 i) o h o' h'/\Z5 o' h' wb i nb a' { n with Zq:=acc }/\ZZ o' h' wb YL Jv (fl++[⟨3,n.me,to,Jj,x,[]⟩]) Yv ZE:=by
 obtain⟨wa,xa,ia⟩:=x6;obtain⟨pa,ca,rfl⟩:=ia.ZP;obtain⟨b3,gW,b5,l,w5,rfl,y3,y4,y5,rfl,rfl⟩:=hu;have TF:=Za N.ZX.2;refine Zd.XS [_,_,_] Tryz.func114 ?_;unfold Zz;have r4:hc h ⟨b4,0,am⟩=U (Zz nb):=Zn x4.2;have r6:rd h ⟨b6,0,am⟩ 3=U [Q J acc.p.r,Q J acc.p.n,al pa (O acc.l) ca]:=Zy xa.2 rfl;obtain⟨g1,w1,N1,k1⟩:=Yi.write (a:={ a with XO:=al pa (O acc.l) ca }) (n:={ n with Zq:=acc }) { N.pt with XO:=ia } d N.ZX ((XH N.ZX.2 N.pt.store.len).Zq acc.p.r acc.p.n (al pa (O acc.l) ca) rfl);have W1:=W.Zf k1 (by rintro t rfl;simp[Tg.of]);have x91:=x9.Zf k1;have r9:hc g1 ⟨b9,0,am⟩=U (TM 111 [b3,gW,b5]):=Zn x91.2;unfold TM at r9;simp only[ch]at r9;unfold Zz at r4 r9;simp -implicitDefEqProofs only[go_sem,r4,r6,w1,TF,r9];have R1:=ZR N1.ZX.2 N1.pt.store.len;refine (mj T g1 o wb nb YL n.me Xq fl Yv ZE b3 gW b5 l w5 k1.Yn W1 R1.me (Za N1.ZX.2) Y7 (y3.Zf k1) (y4.Zf k1) (y5.Zf k1)).use ?_;rintro v' h' ⟨o',Jv,k,W'⟩;simp -implicitDefEqProofs only[go_sem];exact⟨o',_,Jv,(k1.mono fun t q=>.inr (.inr (.inl q))).trans (k.mono fun t q=>q.elim .inl fun q=>.inr (.inl q)),N1.Zf k (by rintro t (rfl|rfl)<;>simp[Tg.of]),W'⟩
theorem WL.ins{k:Int}{w:au}{vs:List Vt}(iv:TD o h w vs):∀{pv:List (Int × au)} {pr:List (Int × List Vt)},WL o h pv pr->WL o h (Go.V.ins pv k w) (Go.V.ins pr k vs):=by
 intro pv pr s
 induction s with
 | nil=>exact .cons ⟨rfl,iv⟩ .nil
 | @cons a b l m Cu _ ih=>
  obtain⟨a1,a2⟩:=a;obtain⟨b1,b2⟩:=b;obtain⟨rfl,h2⟩:=Cu;show AV _ (if a1=k then (a1,w) :: l else (a1,a2) :: Go.V.ins l k w) (if a1=k then (a1,vs) :: m else (a1,b2) :: Go.V.ins m k vs);by_cases q:a1=k
  .rw[if_pos q,if_pos q];exact .cons ⟨rfl,iv⟩ aac
  .rw[if_neg q,if_neg q];exact .cons ⟨rfl,h2⟩ ih
theorem WL.length{pv:List (Int × au)}{pr:List (Int × List Vt)}(s:WL o h pv pr):(O pv)=(O pr):=by
 induction s with
 | nil=>rfl
 | cons _ _ ih=>simp[ih]
theorem WL.Yh{pv:List (Int × au)}{pr:List (Int × List Vt)}(s:WL o h pv pr)(k:Int):(Go.V.Yh pv k=am/\Go.V.Yh pr k=am)\/∃w vs,Go.V.Yh pv k=U w/\Go.V.Yh pr k=U vs/\TD o h w vs:=by
 induction s with
 | nil=>exact .inl ⟨rfl,rfl⟩
 | @cons a b l m Cu _ ih=>
  obtain⟨a1,a2⟩:=a;obtain⟨b1,b2⟩:=b;obtain⟨rfl,h2⟩:=Cu;unfold Go.V.Yh;by_cases q:a1=k
  .rw[if_pos q,if_pos q];exact .inr ⟨_,_,rfl,rfl,h2⟩
  .rw[if_neg q,if_neg q];exact ih
theorem Xt.mm{i:Nat}{ra:RA}{r:Xw}(s:Xt o i h ra r)(d:Vp o h){k:Int}{w:au}{vs:List Vt}(iv:TD o h w vs):
  Kp (fun t=>t=.ZI i) o h o (h.setIfInBounds ra.pb (Jn (ins ra.pv k w)))/\Xt o i (h.setIfInBounds ra.pb (Jn (ins ra.pv k w))) { ra with pv:=ins ra.pv k w } { r with ZI:=ins r.ZI k vs }:=by
 have kk:Kp (fun t=>t=.ZI i) o h o (h.setIfInBounds ra.pb (Jn (ins ra.pv k w))):=(Kp.refl d (fun t=>t=.ZI i)).set s.ZI.1 rfl _;exact⟨kk,s.ZX.Zf kk Ih,⟨s.ZI.1,ZS s.ZI.2⟩,WL.Zf (WL.ins iv s.Ok) kk,s.ZW.Zf kk Ih,s.Y5.Zf kk Ih,s.Rg.Zf kk (fun _ e=>by cases e),s.keys⟩
theorem Yi.qC{wb i nb:Nat}{a:NA}{n:Nd}(s:Yi o h wb i nb a n)(k:Kp (fun t=>t=.X3 i) o h o' h')(hp:n.Zs=am):Yi o' h' wb i nb a n:=
 ⟨s.data.Zf k,s.XO.Zf k,s.Zh.Zf k (fun t ht=>by rcases ht with rfl|rfl|rfl|rfl|⟨z,rfl⟩<;>intro e<;>cases e),s.Zi.Zf k Ih,s.ZB.Zf k Ih,s.Zx.Zf k Ih,s.Zj.Zf k Ih,s.Zg.Zf k Ih,by
  have:=s.Zs;rw[hp]at this ⊢;exact this,s.store⟩
theorem IJ{n:Nd}{a:NA}{ra ra':RA}(r:Option Xw)(h:a.Zh=U ra)(hb:ra'.rb=ra.rb):Jb { n with Zh:=r } { a with Zh:=U ra' } = Jb n a:=by
 unfold Jb VC;simp only[h,Md,hb]
def Zuy(i:Nat)(t:Tg):Prop:=t=.ZV i\/t=.ZI i\/t=.X3 i
theorem Zc4(h:Hp)(o:Ow)(wb i nb:Nat)(a:NA)(n:Nd)(acc:UC)(vs:List Vt)(cur:Bool)(v:au)(d:Vp o h)(N:Z5 o h wb i nb a n)(hp:n.Zs=am)(hv:ZlJ o h i nb a.Zh v acc vs cur):
  ∃b6 b4 b7 b5,v=TM 115 [b6,b4,b7,b5]/\Zd aI T 115 #[Zz b6,Zz b4,Zz b7,Zz b5] h fun v' h'=>∃o' a',Kp (Zuy i) o h o' h'/\Z5 o' h' wb i nb a' { n with Zq:=acc,Zh:=if cur=true then n.Zh.map (fun r=>{ r with ZI:=ins r.ZI n.me vs }) else n.Zh }:=by
 obtain⟨b6,b4,b7,b5,w,rb,rfl,⟨wa,xa,ia⟩,x4,x7,iv,x5,ZlS⟩:=hv;obtain⟨pa,ca,rfl⟩:=ia.ZP;obtain⟨pw,cw,rfl⟩:=iv.ZP;refine⟨b6,b4,b7,b5,rfl,?_⟩;have TF:=Za N.ZX.2;refine Zd.XS [_,_,_,_] Tryz.func115 ?_;unfold Zz;have r4:hc h ⟨b4,0,am⟩=U (Zz nb):=Zn x4.2;have r6:rd h ⟨b6,0,am⟩ 3=U [Q J acc.p.r,Q J acc.p.n,al pa (O acc.l) ca]:=Zy xa.2 rfl;obtain⟨g1,w1,N1,k1⟩:=Yi.write (a:={ a with XO:=al pa (O acc.l) ca }) (n:={ n with Zq:=acc }) { N.pt with XO:=ia } d N.ZX ((XH N.ZX.2 N.pt.store.len).Zq acc.p.r acc.p.n (al pa (O acc.l) ca) rfl);unfold Zz at r4;simp -implicitDefEqProofs only[go_sem,r4,r6,w1,TF];have y4:=x4.Zf k1;have y5:=x5.Zf k1;have y7:=x7.Zf k1;have q4:hc g1 ⟨b4,0,am⟩=U (Zz nb):=Zn y4.2;have q5:hc g1 ⟨b5,0,am⟩=U (Zz rb):=Zn y5.2;have q7:hc g1 ⟨b7,0,am⟩=U (al pw (O vs) cw):=Zn y7.2;unfold Zz at q4 q5;have l4:=Za y4.2;have l5:=Za y5.2;have l7:=Za y7.2;have R1:=ZR N1.ZX.2 N1.pt.store.len;have lnb:=Za N1.ZX.2;have iv1:=iv.Zf k1;refine VS.z (g1.size) [9] (.q 0 (.p 1 (.p 2 (.q 3 (.q 4 (.p 5 (.p 6 (.q 7 (.q 8 (.w 9 .nil)))))))))) mixed uf ?_
 cases cur with
 | true=>
  obtain⟨ra,Kx,rfl⟩:=ZlS;have hR:=N1.pt.Zh;have qD:({ a with XO:=al pa (O acc.l) ca }:NA).Zh=U ra:=Kx;rw[qD]at hR
  cases hr:n.Zh with
  | none=>rw[show ({ n with Zq:=acc }:Nd).Zh=am from hr]at hR;exact hR.elim
  | some r=>
   rw[show ({ n with Zq:=acc }:Nd).Zh=U r from hr]at hR;have hR:Xt o i g1 ra r:=hR;have rr:hc g1 ⟨ra.rb,2,am⟩=U (.map (U ra.pb)):=Zn hR.ZX.2;have eI:=Za hR.ZX.2;simp -implicitDefEqProofs only[go_sem,q4,q5,q7,l4,l5,l7,lnb,R1.me,rr,eI];rw[Qb ID hR.ZI.2];simp -implicitDefEqProofs only[go_sem];obtain⟨k2,R2⟩:=hR.mm k1.Yn (k:=n.me) iv1;have k2':Kp (JS i) o g1 o _:=k2.mono fun t q=>.inr (.inl q);refine⟨o,{ ({ a with XO:=al pa (O acc.l) ca }:NA) with Zh:=U { ra with pv:=ins ra.pv n.me (al pw (O vs) cw) } },(k1.mono fun t q=>.inl q).trans (k2.mono fun t q=>.inr (.inl q)),?_,?_⟩
   .have:=N1.ZX.Zf k2 Ih;rw[<-IJ (U { r with ZI:=ins r.ZI n.me vs }) qD (ra':={ ra with pv:=ins ra.pv n.me (al pw (O vs) cw) }) rfl]at this;exact this
   .exact Yi.UX N1.pt k2' qD rfl R2
 | false=>
  obtain⟨cs,pb,pv,y1,y2,y3⟩:=ZlS;have z1:=y1.Zf k1 Ih;have z3:=y3.Zf k1 Ih;have rr:hc g1 ⟨rb,2,am⟩=U (.map (U pb)):=by rw[SM z1.2];exact y2
  have eI:=Za z1.2;simp -implicitDefEqProofs only[go_sem,q4,q5,q7,l4,l5,l7,lnb,R1.me,rr,eI];rw[Qb ID z3.2];simp -implicitDefEqProofs only[go_sem];have k2:Kp (fun t=>t=.X3 i) o g1 o (g1.setIfInBounds pb (Jn (ins pv n.me (al pw (O vs) cw)))):=(Kp.refl k1.Yn (fun t=>t=.X3 i)).set z3.1 rfl _;exact⟨o,_,(k1.mono fun t q=>.inl q).trans (k2.mono fun t q=>.inr (.inr q)),N1.ZX.Zf k2 Ih,N1.pt.qC k2 hp⟩
end Go.Proofs.YthlfaofofaphfaaGreatDoor

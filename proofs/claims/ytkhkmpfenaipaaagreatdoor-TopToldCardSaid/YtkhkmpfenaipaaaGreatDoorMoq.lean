/- Part Moq. -/
import Derived.Test.YtkhkmpfenaipaaaGreatDoorOpn
import Derived.Test.YtkhkmpfenaipaaaGreatDoorMix
import Derived.Test.YtkhkmpfenaipaaaGreatDoorChw
import Derived.Test.YtkhkmpfenaipaaaGreatDoorPik
import Derived.Test.YtkhkmpfenaipaaaGreatDoorW31
open Go.Value renaming int→O,slice→ae,pointer→an,bool→aC,agg→aF
open Go.IntKind renaming i64→J
open Go.Obj renaming cells→U
open Go.Proofs.Tryz renaming prog→aq,underlying90→br,underlying35→bt
open List renaming length→Q,toArray→ao,take_append_drop→aH,append_assoc→aL,length_append→aS,length_drop→aV,length_take→aX,idxOf_lt_length_of_mem→a3,all_eq_true→a4,getElem?_eq_getElem→a5,append_nil→a7,getElem?_append_right→a8,map→a9,range→ba,not_of_lt_findIdx→bc,nil_append→bd,mem_of_mem_drop→bk,drop_drop→bn,filter_eq_self→bo,getElem_of_mem→bq,all_cons→bA,take→bE
open Nat renaming le_refl→aw,mul_le_mul_right→a0,min_eq_left→a6,sub_mul→bh
open Option renaming map_some→bg,some→Z,none→ak
open Array renaming setIfInBounds→al,size_push→aI
open Bool renaming eq_iff_iff→bf
open And renaming intro→bw
open Go renaming Value→am
namespace Go.Proofs.YtkhkmpfenaipaaaGreatDoor
set_option maxHeartbeats 1000000
open Go Go.V
set_option linter.all false
variable(T:World){cs:List am}{h h':Hp}{v:am}
deriving instance DecidableEq for ZN
deriving instance DecidableEq for Vt
deriving instance DecidableEq for Q9
abbrev Cm:=Q9
variable{l:List Cm}
def Ag:Cm:=⟨0,0,0,0,0⟩
def Q9.C(x:Q9):List am:=Wg x.k x.c x.s x.n x.v
def Q9.err(x:Q9):Int:=Xy x.k x.c x.s x.n x.v
def Vt.cm(v:Vt):Cm:=⟨v.k,v.c,v.s,v.nm,v.v⟩
def Qb(s:Int)(b:ZN)(x:Cm):Vt:=⟨s,b,x.k,x.c,x.s,x.n,x.v⟩
def Y2:ZN:=⟨0,0⟩
structure Yt where
 a:Int
 c:Int
 to:Int
 b:ZN
 v:Vt
 vs:List Vt
structure XR where
 b:ZN
 c:List (Int × List Vt)
 a:Bool
 ZQ:List (Int × Cm)
 Xc:List (Int × List (Int × Unit))
inductive OT where
 | QB (a:QT) (to:Int) (b:ZN) (vs:List Vt)
 | Us (a:QT) (to:Int) (v:Vt)
 | Zn (a:QT) (vs:List Vt) (cur:Bool)
structure Nd where
 me:Nat
 up:Bool
 data:List Nat
 XI:Int
 Zn:QT
 Yy:ZN
 Zc:Option XR
 Zi:List (Int × Cm)
 ZF:List Cm
 store:List am
 ZD:List Cm
 e:List Cm
 Zd:List Yt
 Zo:Option OT
 YO:Int
structure PC where
 ZM:Int
 c:Int
 s:Int
 code:Int
 val:Int
structure Wd where
 Za:Nat->Nd
 b:List Yt
 YP:Nat->Int
 ZH:List PC
structure Out where
 n:Nd
 ls:List Yt
 ts:List PC
def Y3(n:Nd)(l:Yt):Out:=
 if YX n.Zn.p n.Zn.l l.b≠0 then ⟨n,[⟨7,n.me,l.c,n.Zn.p,Ps,[]⟩],[]⟩
 else if n.Zn.p=l.b then ⟨n,[⟨1,n.me,l.c,l.b,Ps,n.Zn.l⟩],[]⟩
 else if JS n.data n.XI l.b≠0 then ⟨n,[],[]⟩
 else ⟨{ n with data:=n.data++Xm (QA l.b),Zo:=Z (.QB ⟨l.b,n.Zn.l⟩ l.c l.b n.Zn.l) },[],[]⟩
def asked(n:Nd)(l:Yt):Out:=
 if Xw n.Zn.p n.Zn.l l.v≠0 then ⟨n,[⟨7,n.me,l.c,n.Zn.p,Ps,[]⟩],[]⟩
 else if l.v∈n.Zn.l then ⟨n,[⟨3,n.me,l.c,Y2,l.v,[]⟩],[]⟩
 else if QS n.data n.XI l.v≠0 then ⟨n,[],[]⟩
 else ⟨{ n with data:=n.data++Xm (WJ l.v),Zo:=Z (.Us ⟨l.v.b,Jq n.Zn.l l.v⟩ l.c l.v) },[],[]⟩
def ML(st:List am)(x:Cm):List am:=if VO st x=0 then (JA st x).cells else XE
def UA(st:List am)(x:Cm):Int:=if VO st x=0 then (JA st x).code else 0
def VR(st:List am)(x:Cm):Int:=if VO st x=0 then (JA st x).val else 0
def XF(n:Nd)(x:Cm):Nd:={ n with ZF:=n.ZF++[x],store:=ML n.store x,ZD:=n.ZD.filter (fun y=>decide (y≠x)),e:=n.e.erase x }
def Si(n:Nd)(x:Cm):List PC:=if x∈n.e then [⟨n.me,x.c,x.s,UA n.store x,VR n.store x⟩] else []
def YA:Nat->Nd->Nd × List PC
 | 0,n=>(n,[])
 | k+1,n=>match YF n.Zi n.ZF.length with
  | none=>(n,[])
  | some x=>((YA k (XF n x)).1,Si n x++(YA k (XF n x)).2)
def X6(n:Nd)(s:Int)(x:Cm):Nd:={ n with Zi:=ins n.Zi s x }
def Jj(n:Nd)(s:Int)(x:Cm):Out:=
 ⟨(YA ((X6 n s x).Zi.length+1) (X6 n s x)).1,[],(YA ((X6 n s x).Zi.length+1) (X6 n s x)).2⟩
def C0(n:Nd)(r:XR)(l:Yt):Nd:={ n with Zc:=Z { r with c:=ins r.c l.c l.vs } }
def UB(r:XR)(l:Yt):List (Int × Unit):=ins ((YF r.Xc l.v.Zx).getD []) l.c ()
def Vc(n:Nd)(r:XR)(l:Yt):Nd:={ n with Zc:=Z { r with Xc:=ins r.Xc l.v.Zx (UB r l) } }
def YI(n:Nd)(l:Yt):Out:=
 match n.Zc with
 | none=>⟨n,[],[]⟩
 | some r=>
  if l.a=1 then (if l.b=r.b then ⟨C0 n r l,[],[]⟩ else ⟨n,[],[]⟩)
  else if l.v.b≠r.b then ⟨n,[],[]⟩
  else if 5<2*(UB r l).length then Jj (Vc n r l) l.v.Zx l.v.cm
  else ⟨Vc n r l,[],[]⟩
def add(n:Nd)(x:Cm):Nd:=if x∈n.ZD\/x∈n.ZF then n else { n with ZD:=n.ZD++[x] }
def XL(n:Nd)(l:Yt):Nd:=if Zj n.Yy l.b then { n with Yy:=l.b } else n
def Q3(n:Nd)(l:Yt):Out:=
 match YF n.Zi l.v.Zx with
 | some x=>⟨XL n l,[⟨6,n.me,l.c,Y2,Qb l.v.Zx Y2 x,[]⟩],[]⟩
 | none=>⟨XL n l,[],[]⟩
def Zy(n:Nd)(l:Yt):Out:=
 if l.a=0 then Y3 n l else if l.a=1\/l.a=3 then YI n l else if l.a=2 then asked n l
 else if l.a=4 then ⟨add n l.v.cm,[],[]⟩ else if l.a=5 then Q3 n l else if l.a=6 then Jj n l.v.Zx l.v.cm else ⟨XL n l,[],[]⟩
def Yu(r:XR):List (List Vt):=(ba 5).map fun (m:Nat)=>(YF r.c (m:Int)).getD []
def WS(l:List Vt):Int:=l.foldl (fun t v=>if t<v.Zx then v.Zx else t) (-1)
def NC(b:List (List Vt))(s:Int):Cm:=if S7 s b.flatten=0 then (Vm s b.flatten).cm else Ag
def UC(n:Nd)(b:List (List Vt))(pr:List (Int × Cm))(s:Nat):List (Int × Cm):=if YF n.Zi (s:Int)=ak then ins pr (s:Int) (NC b s) else pr
def Qs(n:Nd)(r:XR):XR:=
 { r with ZQ:=(List.range' n.ZF.length ((WS (Yu r).flatten+1).toNat-n.ZF.length)).foldl (UC n (Yu r)) r.ZQ,a:=true }
def Uj(n:Nd)(r:XR)(x:Cm):Nat->Nat->Option Nat
 | 0,_=>ak
 | k+1,s=>if YF r.ZQ (s:Int)=Z x\/YF n.Zi (s:Int)=Z x then ak
  else if YF r.ZQ (s:Int)=ak/\YF n.Zi (s:Int)=ak then Z s else Uj n r x k (s+1)
def free(n:Nd)(r:XR)(x:Cm):Option Nat:=Uj n r x (40-n.ZF.length) n.ZF.length
def Qk(n:Nd)(r:XR)(x:Cm):XR:=match free n r x with|some s=>{ r with ZQ:=ins r.ZQ (s:Int) x }|none=>r
def XS(n:Nd)(r:XR)(l:List Cm):XR:=l.foldl (Qk n) r
def Te(n:Nd)(r:XR):List Yt:=(ba 5).flatMap fun (m:Nat)=>if YF r.c (m:Int)=ak then [⟨0,n.me,m,r.b,Ps,[]⟩] else []
def SC(n:Nd)(r:XR)(s:Nat)(x:Cm)(m:Nat):List Yt:=if YF ((YF r.Xc (s:Int)).getD []) (m:Int)=ak then [⟨2,n.me,m,Y2,Qb s r.b x,[]⟩] else []
def Wc(n:Nd)(r:XR)(s:Nat):List Yt:=match YF r.ZQ (s:Int) with
 | some x=>if YF n.Zi (s:Int)=ak then (ba 5).flatMap (SC n r s x) else []
 | none=>[]
def US(n:Nd)(r:XR):List Yt:=(ba 40).flatMap (Wc n r)
def Xs(n:Nd)(r:XR):XR:=XS n (if r.a=true then r else Qs n r) n.ZD
def Jc(n:Nd)(r:XR):Out:=
 if Zj n.Zn.p r.b then
  (if JS n.data n.XI r.b≠0 then ⟨n,[],[]⟩ else
    ⟨{ n with data:=n.data++Xm (QA r.b),Zo:=Z (.Zn (if YX n.Zn.p n.Zn.l r.b=0 then ⟨r.b,n.Zn.l⟩ else Qj) (if YX n.Zn.p n.Zn.l r.b=0 then n.Zn.l else []) true) },[],[]⟩)
 else if ¬5<2*r.c.length then ⟨n,Te n r,[]⟩
 else ⟨{ n with Zc:=Z (Xs n r) },US n (Xs n r),[]⟩
def Zt(n:Nd):Nd:=match n.Zc with|some r=>if Zj r.b n.Zn.p then { n with Zc:=ak } else n|none=>n
def WT(n:Nd):List Yt:=n.ZD.map fun x=>⟨4,n.me,n.Zn.p.n,Y2,Qb 0 Y2 x,[]⟩
def Yj(n:Nd):Out:=match n.Zc with
 | some r=>Jc n r
 | none=>if 0<n.Zn.p.r/\n.Zn.p.n≠n.me then ⟨n,WT n,[]⟩ else ⟨n,[],[]⟩
def Wv(n:Nd):ZN:=if Zj n.Zn.p n.Yy then n.Yy else n.Zn.p
def JT(n:Nd):Nd:={ n with YO:=(n.YO+1)%5 }
def Wi(n:Nd):List Yt:=if n.YO≠n.me/\n.ZF.length<40 then [⟨5,n.me,n.YO,Wv n,Qb n.ZF.length Y2 Ag,[]⟩] else []
def YH(n:Nd):Out:=
 if (Yj (Zt n)).n.Zo.isSome=true then Yj (Zt n)
 else ⟨JT (Yj (Zt n)).n,(Yj (Zt n)).ls++Wi (JT (Yj (Zt n)).n),[]⟩
def ZE(n:Nd):Nd:={ n with data:=if Xo n.data n.XI then n.data else [],XI:=if Xo n.data n.XI then ((Q n.data):Int) else 0,Zo:=ak }
def Yc(n:Nd):OT->Out
 | .QB a to b vs=>⟨{ n with Zn:=a },[⟨1,n.me,to,b,Ps,vs⟩],[]⟩
 | .Us a to v=>⟨{ n with Zn:=a },[⟨3,n.me,to,Y2,v,[]⟩],[]⟩
 | .Zn a vs cur=>⟨{ n with Zn:=a,Zc:=if cur=true then n.Zc.map (fun r=>{ r with c:=ins r.c n.me vs }) else n.Zc },[],[]⟩
def Zw:Nd->List Yt->Out
 | n,[]=>⟨{ n with Zd:=[] },[],[]⟩
 | n,l :: k=>if n.Zo.isSome=true then ⟨{ n with Zd:=l :: k },[],[]⟩
  else ⟨(Zw (Zy { n with Zd:=k } l).n k).n,(Zy { n with Zd:=k } l).ls++(Zw (Zy { n with Zd:=k } l).n k).ls,(Zy { n with Zd:=k } l).ts++(Zw (Zy { n with Zd:=k } l).n k).ts⟩
def step(n:Nd):Out:=
 if n.up=true then (match n.Zo with
  | some p=>Yc (ZE n) p
  | none=>if (Zw n n.Zd).n.Zo.isSome=true then Zw n n.Zd
   else ⟨(YH (Zw n n.Zd).n).n,(Zw n n.Zd).ls++(YH (Zw n n.Zd).n).ls,(Zw n n.Zd).ts++(YH (Zw n n.Zd).n).ts⟩)
 else ⟨n,[],[]⟩
def ZZ(i:Nat)(up:Bool)(data:List Nat)(XI:Int)(Zn:QT):Nd:=⟨i,up,data,XI,Zn,Y2,ak,[],[],XE,[],[],[],ak,0⟩
def Yl(n:Nd):ZN:=⟨match n.Zc with
 | some r=>max (max n.Zn.p.r n.Yy.r+1) (r.b.r+1)
 | none=>max n.Zn.p.r n.Yy.r+1,n.me⟩
def XM:Option OT->Option OT
 | some (.Zn a vs _)=>Z (.Zn a vs false)
 | p=>p
def lead(n:Nd):Nd:=if n.up=false\/65536<(Yl n).r then n else { n with Zc:=Z ⟨Yl n,[],false,[],[]⟩,Zo:=XM n.Zo }
def JL(rc:List Nat)(now:Int):Cm:=if Xl rc now=0 then ⟨Ju ((JK rc).drop 22) 0,Ju ((JK rc).drop 22) 1,Ju ((JK rc).drop 22) 2,Ju ((JK rc).drop 22) 3,Ju ((JK rc).drop 22) 4⟩ else Ag
def E6(l:List Nat):Nat->QT->Nat->QT × Nat
 | 0,a,k=>(a,k)
 | f+1,a,k=>match Xp l a k with
  | none=>(a,k)
  | some x=>E6 l f x.1 x.2
def Sj(l:List Nat):QT × Nat:=E6 l ((Q l)+1) Qj 0
def Tw(l:List Nat)(n k:Int):Int:=n+(if ((Q l):Int)-n<k then ((Q l):Int)-n else k)
def Y4(i:Nat)(n:Nd)(Zh:Int):Nd:=
 if n.up=true then (if Xo n.data n.XI/\0<=Zh then ZZ i false (n.data.take (Tw n.data n.XI Zh).toNat) (Tw n.data n.XI Zh) Qj else ZZ i false [] 0 Qj) else n
def Hc(l:List Nat)(n:Int):List Nat:=if Xo l n then l.take (Sj l).2 else []
def nL(l:List Nat)(n:Int):Int:=if Xo l n then (if ((Sj l).2:Int)<n then ((Sj l).2:Int) else n) else 0
def started(i:Nat)(n:Nd):Nd:=
 if n.up=true then n else ZZ i true (Hc n.data n.XI) (nL n.data n.XI) (if Xo (Hc n.data n.XI) (nL n.data n.XI) then (Sj (Hc n.data n.XI)).1 else Qj)
structure Ac where
 a:Int
 ZM:Nat
 at':Nat
 Zh:Int
 data:List Nat
def Wd.set(w:Wd)(i:Nat)(n:Nd):Wd:={ w with Za:=fun j=>if j=i then n else w.Za j }
def Wd.out(w:Wd)(i:Nat)(o:Out):Wd:={ Za:=fun j=>if j=i then o.n else w.Za j,b:=w.b++o.ls,YP:=w.YP,ZH:=w.ZH++o.ts }
def XN(w:Wd)(l:Yt):Wd:=if (w.Za l.to.toNat).up=true then w.set l.to.toNat { w.Za l.to.toNat with Zd:=(w.Za l.to.toNat).Zd++[l] } else w
def pick(w:Wd)(at':Nat)(comes stays:Bool):Wd:=
 match w.b[at'%w.b.length]? with
 | none=>w
 | some l=>if comes=true then XN (if stays=true then w else { w with b:=w.b.eraseIdx (at'%w.b.length) }) l else (if stays=true then w else { w with b:=w.b.eraseIdx (at'%w.b.length) })
def VT(n:Nd)(x:Cm):Nd:=if x∈n.e then n else { n with e:=n.e++[x] }
def Wj(w:Wd)(i:Nat)(data:List Nat):Wd:=
 if (w.Za i).up=true then
  (if Xl data (w.Za i).ZF.length≠0 then { w with YP:=fun j=>if j=i then w.YP i+1 else w.YP j }
  else if JL data (w.Za i).ZF.length∈(w.Za i).ZF then
   { w with ZH:=w.ZH++[⟨(w.Za i).me,(JL data (w.Za i).ZF.length).c,(JL data (w.Za i).ZF.length).s,UA (w.Za i).store (JL data (w.Za i).ZF.length),VR (w.Za i).store (JL data (w.Za i).ZF.length)⟩] }
  else w.set i (VT (add (w.Za i) (JL data (w.Za i).ZF.length)) (JL data (w.Za i).ZF.length)))
 else w
def act(w:Wd)(a:Ac):Wd:=
 if a.a=1 then Wj w a.ZM a.data
 else if a.a=2 then w.set a.ZM (lead (w.Za a.ZM))
 else if a.a=3 then w.out a.ZM (step (w.Za a.ZM))
 else if a.a=4\/a.a=5\/a.a=6 then pick w a.at' (decide (a.a≠5)) (decide (a.a=6))
 else if a.a=7 then w.b.foldl XN { w with b:=[] }
 else if a.a=8 then w.set a.ZM (Y4 a.ZM (w.Za a.ZM) a.Zh)
 else w.set a.ZM (started a.ZM (w.Za a.ZM))
def Qf:Wd:=⟨fun i=>ZZ i true [] 0 Qj,[],fun _=>0,[]⟩
def Tx(l:List Ac):Wd:=l.foldl act Qf
set_option maxRecDepth 100000
@[go_sem] theorem PD:qQ aq 102=Z 43:=zI
@[go_sem] theorem Gq:qQ aq 160=Z 98:=zI
@[go_sem] theorem E7:qQ aq 161=Z 198:=zI
@[go_sem] theorem Ah:qQ aq 198=Z 199:=zI
@[go_sem] theorem ZcM:qQ aq 181=Z 180:=zI
@[go_sem] theorem If:tzv aq 43=Z (aF (ao Ag.C)):=zI
@[go_sem] theorem ZcN:tzv aq 98=Z (ae ak 0 0):=zI
@[go_sem] theorem Ai:tzv aq 198=Z (.map ak):=zI
@[go_sem] theorem Zjd:tzv aq 199=Z (aF #[]):=zI
@[go_sem] theorem Zqb:tzv aq 180=Z .nilFunc:=zI
@[go_sem] theorem ZMh:tkp aq 101=true:=zI
@[go_sem] theorem ZMi:tkm aq 198=true:=zI
@[go_sem] theorem ZMj:tkf aq 1=true:=zI
inductive Tg where
 | world
 | Za
 | b
 | ZH
 | ZM (i:Nat)
 | Zi (i:Nat)
 | ZF (i:Nat)
 | ZD (i:Nat)
 | e (i:Nat)
 | Zd (i:Nat)
 | Zc (i:Nat)
 | c (i:Nat)
 | ZQ (i:Nat)
 | Xc (i:Nat)
 | f (i:Nat) (s:Int)
 | XM (i:Nat)
variable{S:Tg->Prop}
def Tg.of:Tg->Option Nat
 | .world=>ak
 | .Za=>ak
 | .b=>ak
 | .ZH=>ak
 | .ZM i=>Z i
 | .Zi i=>Z i
 | .ZF i=>Z i
 | .ZD i=>Z i
 | .e i=>Z i
 | .Zd i=>Z i
 | .Zc i=>Z i
 | .c i=>Z i
 | .ZQ i=>Z i
 | .Xc i=>Z i
 | .f i _=>Z i
 | .XM i=>Z i
abbrev Ow:=Nat->Option Tg
variable{o o':Ow}
structure Im(o:Ow)(n:Nat)(h:Hp)(v:am)(m:Nat)(cs:List am):Prop where
 sl:Sl n h v m cs
 fits:∃p c,v=ae p m c/\m<=c
 free:∀b,Yq v=Z b->b<h.size/\o b=ak
theorem Im.Zh{n m:Nat}(s:Im o n h v m cs)(k:Kp S o h o' h'):Im o' n h' v m cs:=by
 obtain⟨⟨p,c,rfl,r,f⟩,⟨t,c',g,q⟩,u⟩:=s;simp only[Value.slice.injEq,true_and]at g;obtain⟨rfl,rfl⟩:=g;have d:∀b,Yq (ae p m c)=Z b->b<h.size/\o b=ak/\h'[b]? = h[b]? /\ o' b=ak:=fun b hb=>by
  grind [Kp.Zh]
 refine⟨⟨p,c,rfl,r,fun j=>?_⟩,⟨p,c,rfl,q⟩,fun b hb=>⟨Nat.lt_of_lt_of_le (d b hb).1 k.size,(d b hb).2.2.2⟩⟩;obtain⟨b,off,rfl,w⟩:=f j;have x:c≠0:=by
  intro e;have:m=0:=uh;subst this;exact j (List.eq_nil_of_length_eq_zero zK)
 grind [Yq,YU,hc]
theorem Im.Vp{B n m:Nat}{E:TypeId}(s:QU B E n h v m cs)(c:∀b,B<=b->o b=ak):Im o n h v m cs:=by
 refine⟨s.sl,?_,fun b hb=>?_⟩
 .grind [QU]
 .exact⟨s.lt b hb,c b (s.Yb b hb)⟩
theorem Im.nil(o:Ow)(n:Nat)(h:Hp)(p:Option Addr):Im o n h (ae p 0 0) 0 []:=
 ⟨⟨p,0,rfl,zX,fun c=>absurd rfl c⟩,⟨p,0,rfl,aw _⟩,fun b hb=>by cases p<;>simp[Yq]at hb⟩
def Ta(o:Ow)(h:Hp)(v:am)(l:List Vt):Prop:=Im o 8 h v (Q l) (ZW Zz l)
def Rb(o:Ow)(h:Hp)(v:am)(l:List Nat):Prop:=Im o 1 h v (Q l) (l.map bv)/\∀x∈l,x<256
theorem Ta.ts{l:List Vt}(s:Ta o h v l):Ts Zz 8 h v l:=⟨Im.sl s⟩
theorem Rb.bs{l:List Nat}(s:Rb o h v l):Bs h v l:=⟨s.1.sl,s.2⟩
theorem Ta.Zh{l:List Vt}(s:Ta o h v l)(k:Kp S o h o' h'):Ta o' h' v l:=Im.Zh s k
theorem Rb.Zh{l:List Nat}(s:Rb o h v l)(k:Kp S o h o' h'):Rb o' h' v l:=⟨s.1.Zh k,s.2⟩
def Jk(l:Yt)(w:am):List am:=[O J l.a,O J l.c,O J l.to,O J l.b.r,O J l.b.n,O J l.v.Zx,O J l.v.b.r,O J l.v.b.n,O J l.v.k,O J l.v.c,O J l.v.s,O J l.v.nm,O J l.v.v,w]
def Gs(x:Yt × am):List am:=Jk x.1 x.2
def NE(t:PC):List am:=[O J t.ZM,O J t.c,O J t.s,O J t.code,O J t.val]
def ZC(b:Nat):am:=an (Z ⟨b,0,ak⟩)
def Rc(x:Cm):am:=aF (ao x.C)
def WU(o:Ow)(t:Tg)(h:Hp)(v:am)(l:List Cm):Prop:=Xk o t 43 5 h v (Q l) (ZW Q9.C l)
def Ww(o:Ow)(t:Tg)(h:Hp)(v:am)(l:List Yt):Prop:=
 ∃xs:List (Yt × am),xs.map (·.1)=l/\Xk o t 143 14 h v (Q xs) (ZW Gs xs)/\∀x∈xs,Ta o h x.2 x.1.vs
theorem WU.Zh{t:Tg}(s:WU o t h v l)(k:Kp S o h o' h')(b:¬S t):WU o' t h' v l:=Xk.Zh s k b
theorem Ww.Zh{t:Tg}{l:List Yt}(s:Ww o t h v l)(k:Kp S o h o' h')(b:¬S t):Ww o' t h' v l:=by
 grind [Ww,Xk.Zh,Ta.Zh]
def Wx(o:Ow)(t:Tg)(h:Hp)(b:Nat)(l:List (Int × am)):Prop:=o b=Z t/\h[b]? = Z (JO l)
theorem Wx.Zh{t:Tg}{b:Nat}{l:List (Int × am)}(s:Wx o t h b l)(k:Kp S o h o' h')(e:¬S t):Wx o' t h' b l:=by
 have c:∀u,o b=Z u->¬S u:=fun u d=>by rw[s.1]at d;grind
 exact⟨by rw[k.Zn s.2 c,s.1],k.get s.2 c⟩
def Ve(o:Ow)(t:Tg)(h:Hp)(b:Nat)(x:Obj):Prop:=o b=Z t/\h[b]? = Z x
theorem Ve.Zh{t:Tg}{b:Nat}{x:Obj}(s:Ve o t h b x)(k:Kp S o h o' h')(e:¬S t):Ve o' t h' b x:=by
 have c:∀u,o b=Z u->¬S u:=fun u d=>by rw[s.1]at d;grind
 exact⟨by rw[k.Zn s.2 c,s.1],k.get s.2 c⟩
def Yo(o:Ow)(h:Hp)(b:Nat)(x:Obj):Prop:=o b=ak/\h[b]? = Z x
theorem Yo.Zh{b:Nat}{x:Obj}(s:Yo o h b x)(k:Kp S o h o' h'):Yo o' h' b x:=(k.free s.2 s.1).symm
def Vq(o:Ow)(h:Hp)(pv:List (Int × am))(pr:List (Int × List Vt)):Prop:=fu (fun x y=>x.1=y.1/\Ta o h x.2 y.2) pv pr
theorem Vq.Zh{pv:List (Int × am)}{pr:List (Int × List Vt)}(s:Vq o h pv pr)(k:Kp S o h o' h'):Vq o' h' pv pr:=by
 induction s with
 | nil=>exact .nil
 | cons a _ b=>exact .cons ⟨a.1,a.2.Zh k⟩ b
def Fk(l:List (Int × Unit)):List (Int × am):=T6 (fun _=>aF #[]) l
def Vf(o:Ow)(i:Nat)(h:Hp)(sv:List (Int × Nat))(b:List (Int × List (Int × Unit))):Prop:=fu (fun x y=>x.1=y.1/\Wx o (.f i y.1) h x.2 (Fk y.2)) sv b
theorem Vf.Zh{i:Nat}{sv:List (Int × Nat)}{b:List (Int × List (Int × Unit))}(s:Vf o i h sv b)(k:Kp S o h o' h')(d:∀s,¬S (.f i s)):Vf o' i h' sv b:=by
 induction s with
 | nil=>exact .nil
 | cons a _ c=>exact .cons ⟨a.1,a.2.Zh k (d _)⟩ c
def mpV(b:Nat):am:=.map (Z b)
structure RA where
 rb:Nat
 pb:Nat
 qb:Nat
 vb:Nat
 pv:List (Int × am)
 sv:List (Int × Nat)
def nM(r:XR)(a:RA):List am:=[O J r.b.r,O J r.b.n,.map (Z a.pb),aC r.a,.map (Z a.qb),.map (Z a.vb)]
structure X1(o:Ow)(i:Nat)(h:Hp)(a:RA)(r:XR):Prop where
 Yb:Ve o (.Zc i) h a.rb (U (nM r a).toArray 163)
 c:Wx o (.c i) h a.pb a.pv
 PG:Vq o h a.pv r.c
 ZQ:Wx o (.ZQ i) h a.qb (T6 Rc r.ZQ)
 Xc:Wx o (.Xc i) h a.vb (T6 mpV a.sv)
 f:Vf o i h a.sv r.Xc
 keys:(a.sv.map (·.1)).Nodup
def Ql(i:Nat)(t:Tg):Prop:=t=.Zc i\/t=.c i\/t=.ZQ i\/t=.Xc i\/∃s,t=.f i s
theorem X1.Zh{i:Nat}{a:RA}{r:XR}(s:X1 o i h a r)(k:Kp S o h o' h')(b:∀t,Ql i t->¬S t):X1 o' i h' a r:=
 ⟨s.Yb.Zh k (b _ (.inl rfl)),s.c.Zh k (b _ (.inr (.inl rfl))),s.PG.Zh k,s.ZQ.Zh k (b _ (.inr (.inr (.inl rfl)))),s.Xc.Zh k (b _ (.inr (.inr (.inr (.inl rfl))))),s.f.Zh k (fun s=>b _ (.inr (.inr (.inr (.inr ⟨s,rfl⟩))))),s.keys⟩
def Lw:Option RA->am
 | some a=>ZC a.rb
 | none=>an ak
def ZcO(o:Ow)(i:Nat)(h:Hp):Option RA->Option XR->Prop
 | some a,Z r=>X1 o i h a r
 | none,ak=>True
 | _,_=>False
theorem ZcO.Zh{i:Nat}{a:Option RA}{r:Option XR}(s:ZcO o i h a r)(k:Kp S o h o' h')(b:∀t,Ql i t->¬S t):ZcO o' i h' a r:=by
 cases a<;>cases r<;>first|exact s|exact X1.Zh s k b
def SD(f:FuncId)(l:List Nat):am:=.func (.func f) #[] (l.map ZC).toArray
def ZcP(o:Ow)(h:Hp)(wb nb:Nat)(v:am)(to:Int)(b:ZN)(vs:List Vt):Prop:=
 ∃f e d c l g w,v=SD 107 [f,e,d,c]/\Yo o h f (U [ZC wb].toArray 86)/\Yo o h e (U [ZC nb].toArray 93) /\
  Yo o h d (U (Jk l g).toArray 143)/\l.c=to/\l.b=b/\Yo o h c (U [w].toArray 98)/\Ta o h w vs
def ZcQ(o:Ow)(h:Hp)(wb nb:Nat)(v:am)(to:Int)(x:Vt):Prop:=
 ∃d c b l e,v=SD 112 [d,c,b]/\Yo o h d (U [ZC wb].toArray 86)/\Yo o h c (U [ZC nb].toArray 93) /\
  Yo o h b (U (Jk l e).toArray 143)/\l.c=to/\l.v=x
theorem ZcP.Zh{wb nb:Nat}{to:Int}{b:ZN}{vs:List Vt}(s:ZcP o h wb nb v to b vs)(k:Kp S o h o' h'):ZcP o' h' wb nb v to b vs:=by
 let⟨x,u,t,r,l,c,w,q,p,m,j,g,f,e,d⟩:=s;exact⟨x,u,t,r,l,c,w,q,p.Zh k,m.Zh k,j.Zh k,g,f,e.Zh k,d.Zh k⟩
theorem ZcQ.Zh{wb nb:Nat}{to:Int}{x:Vt}(s:ZcQ o h wb nb v to x)(k:Kp S o h o' h'):ZcQ o' h' wb nb v to x:=by
 let⟨q,p,m,l,b,j,g,f,e,d,c⟩:=s;exact⟨q,p,m,l,b,j,g.Zh k,f.Zh k,e.Zh k,d,c⟩
def Ot(o:Ow)(h:Hp)(b:Nat)(a:QT):Prop:=∃w,Yo o h b (U (XO a.p w).toArray 100)/\Ta o h w a.l
theorem Ot.Zh{b:Nat}{a:QT}(s:Ot o h b a)(k:Kp S o h o' h'):Ot o' h' b a:=by
 grind [Ot,Yo.Zh,Ta.Zh]
def Zqc(o:Ow)(h:Hp)(i nb:Nat)(f:Option RA)(v:am)(a:QT)(vs:List Vt)(cur:Bool):Prop:=
 ∃c e b d w rb,v=SD 116 [c,e,b,d]/\Ot o h c a/\Yo o h e (U [ZC nb].toArray 93)/\Yo o h b (U [w].toArray 98)/\Ta o h w vs /\
  Yo o h d (U [ZC rb].toArray 101) /\
  (if cur=true then ∃a,f=Z a/\a.rb=rb else ∃cs pb pv,Ve o (.XM i) h rb (U cs 163)/\cs[2]? = Z (.map (Z pb))/\Wx o (.XM i) h pb pv)
def VU(o:Ow)(h:Hp)(wb i nb:Nat)(f:Option RA):am->Option OT->Prop
 | v,ak=>v=.nilFunc
 | v,Z (.QB a to b vs)=>∃d e c u,v=SD 109 [d,e,c]/\Ot o h d a/\Yo o h e (U [ZC nb].toArray 93)/\Yo o h c (U [u].toArray 1)/\ZcP o h wb nb u to b vs
 | v,Z (.Us a to x)=>∃d e c u,v=SD 115 [d,e,c]/\Ot o h d a/\Yo o h e (U [ZC nb].toArray 93)/\Yo o h c (U [u].toArray 1)/\ZcQ o h wb nb u to x
 | v,Z (.Zn a vs cur)=>Zqc o h i nb f v a vs cur
theorem VU.Zh{wb i nb:Nat}{c:Option RA}{p:Option OT}(s:VU o h wb i nb c v p)(k:Kp S o h o' h')(d:¬S (.XM i)):VU o' h' wb i nb c v p:=by
 match p,s with
 | none,s=>exact s
 | some (.QB a to b vs),⟨b6,b4,b9,u,h1,h2,h3,h4,h5⟩=>exact⟨b6,b4,b9,u,h1,h2.Zh k,h3.Zh k,h4.Zh k,h5.Zh k⟩
 | some (.Us a to x),⟨b6,b4,b9,u,h1,h2,h3,h4,h5⟩=>exact⟨b6,b4,b9,u,h1,h2.Zh k,h3.Zh k,h4.Zh k,h5.Zh k⟩
 | some (.Zn a vs cur),⟨b6,b4,b7,b5,w,rb,h1,h2,h3,h4,h5,h6,h7⟩=>
  refine⟨b6,b4,b7,b5,w,rb,h1,h2.Zh k,h3.Zh k,h4.Zh k,h5.Zh k,h6.Zh k,?_⟩
  cases cur with
  | true=>exact h7
  | false=>
   let⟨cs,pb,pv,g1,f,e⟩:=h7;exact⟨cs,pb,pv,g1.Zh k d,f,e.Zh k d⟩
structure NA where
 data:am
 c:am
 Zc:Option RA
 Zi:Nat
 ZF:am
 ZD:am
 e:am
 Zd:am
 Zo:am
def Tj(n:Nd)(a:NA):List am:=[O J n.me,aC n.up,a.data,O J n.XI,O J n.Zn.p.r,O J n.Zn.p.n,a.c,O J n.Yy.r,O J n.Yy.n,Lw a.Zc,.map (Z a.Zi),a.ZF]++(n.store++[a.ZD,a.e,a.Zd,a.Zo,O J n.YO])
def Jl(n:Nd)(a:NA):Obj:=U (Tj n a).toArray 104
structure Ig(cs:List am):Prop where
 fit:XC J6 cs=true
 num:∀i,i<32->nth cs i=Z (O J (ci cs i))
 yes:∀i,32<=i->i<40->nth cs i=Z (aC (cb cs i))
structure Yx(o:Ow)(h:Hp)(wb i nb:Nat)(a:NA)(n:Nd):Prop where
 data:Rb o h a.data n.data
 c:Ta o h a.c n.Zn.l
 Zc:ZcO o i h a.Zc n.Zc
 Zi:Wx o (.Zi i) h a.Zi (T6 Rc n.Zi)
 ZF:WU o (.ZF i) h a.ZF n.ZF
 ZD:WU o (.ZD i) h a.ZD n.ZD
 e:WU o (.e i) h a.e n.e
 Zd:Ww o (.Zd i) h a.Zd n.Zd
 Zo:VU o h wb i nb a.Zc a.Zo n.Zo
 store:Ig n.store
structure Yg(o:Ow)(h:Hp)(wb i nb:Nat)(a:NA)(n:Nd):Prop where
 Yb:Ve o (.ZM i) h nb (Jl n a)
 pt:Yx o h wb i nb a n
theorem Hd{i:Nat}{t:Tg}(h:Ql i t):t.of=Z i:=by
 rcases h with rfl|rfl|rfl|rfl|⟨s,rfl⟩<;>rfl
section
variable {S:Tg->Prop} {o o':Ow} {h h':Hp} {wb i nb:Nat} {a:NA} {n:Nd}
theorem Yx.Zh(s:Yx o h wb i nb a n)(k:Kp S o h o' h')(d:∀t,S t->t.of≠Z i\/t=.ZM i):Yx o' h' wb i nb a n:=by
 have q:∀t:Tg,t.of=Z i->t ≠ .ZM i->¬S t:=fun t b f c=>(d t c).elim (fun q=>q b) f;exact⟨s.data.Zh k,s.c.Zh k,s.Zc.Zh k (fun t b=>q t (Hd b) (by rcases b with rfl|rfl|rfl|rfl|⟨z,rfl⟩<;>intro e<;>cases e)),s.Zi.Zh k (q _ rfl zK),s.ZF.Zh k (q _ rfl zK),s.ZD.Zh k (q _ rfl zK),s.e.Zh k (q _ rfl zK),s.Zd.Zh k (q _ rfl zK),s.Zo.Zh k (q _ rfl zK),s.store⟩
theorem Yg.Zh(s:Yg o h wb i nb a n)(k:Kp S o h o' h')(b:∀t,S t->t.of≠Z i):Yg o' h' wb i nb a n:=
 ⟨s.Yb.Zh k fun q=>b _ q rfl,s.pt.Zh k fun t c=>.inl (b t c)⟩
theorem Yx.put(s:Yx o h wb i nb a n)(d:V3 o h){x:Obj}(b:Ve o (.ZM i) h nb x):Yg o (al h nb (Jl n a)) wb i nb a n:=
 ⟨⟨b.1,Yp b.2⟩,s.Zh ((Kp.refl d (fun t=>t=.ZM i)).set b.1 rfl _) fun t c=>.inr c⟩
theorem Yx.write(s:Yx o h wb i nb a n)(d:V3 o h){x:Obj}(b:Ve o (.ZM i) h nb x){e:Option Hp}(w:e=Z (al h nb (Jl n a))):∃g,e=Z g/\Yg o g wb i nb a n/\Kp (fun t=>t=.ZM i) o h o g:=
 ⟨_,w,s.put d b,(Kp.refl d (fun t=>t=.ZM i)).set b.1 rfl _⟩
theorem Yx.Aj(s:Yx o h wb i nb a n)(k:Kp (fun t=>t=.ZD i) o h o' h')(b:WU o' (.ZD i) h' v l):Yx o' h' wb i nb { a with ZD:=v } { n with ZD:=l }:=
 ⟨s.data.Zh k,s.c.Zh k,s.Zc.Zh k (fun t c=>by rcases c with rfl|rfl|rfl|rfl|⟨z,rfl⟩<;>intro e<;>cases e),s.Zi.Zh k zK,s.ZF.Zh k zK,b,s.e.Zh k zK,s.Zd.Zh k zK,s.Zo.Zh k zK,s.store⟩
theorem Yx.ZgY(s:Yx o h wb i nb a n)(k:Kp (fun t=>t=.ZF i) o h o' h')(b:WU o' (.ZF i) h' v l):Yx o' h' wb i nb { a with ZF:=v } { n with ZF:=l }:=
 ⟨s.data.Zh k,s.c.Zh k,s.Zc.Zh k (fun t c=>by rcases c with rfl|rfl|rfl|rfl|⟨z,rfl⟩<;>intro e<;>cases e),s.Zi.Zh k zK,b,s.ZD.Zh k zK,s.e.Zh k zK,s.Zd.Zh k zK,s.Zo.Zh k zK,s.store⟩
theorem Yx.Gu(s:Yx o h wb i nb a n)(k:Kp (fun t=>t=.e i) o h o' h')(b:WU o' (.e i) h' v l):Yx o' h' wb i nb { a with e:=v } { n with e:=l }:=
 ⟨s.data.Zh k,s.c.Zh k,s.Zc.Zh k (fun t c=>by rcases c with rfl|rfl|rfl|rfl|⟨z,rfl⟩<;>intro e<;>cases e),s.Zi.Zh k zK,s.ZF.Zh k zK,s.ZD.Zh k zK,b,s.Zd.Zh k zK,s.Zo.Zh k zK,s.store⟩
theorem Yx.xz(s:Yx o h wb i nb a n)(k:Kp (fun t=>t=.Zd i) o h o' h'){l:List Yt}(b:Ww o' (.Zd i) h' v l):Yx o' h' wb i nb { a with Zd:=v } { n with Zd:=l }:=
 ⟨s.data.Zh k,s.c.Zh k,s.Zc.Zh k (fun t c=>by rcases c with rfl|rfl|rfl|rfl|⟨z,rfl⟩<;>intro e<;>cases e),s.Zi.Zh k zK,s.ZF.Zh k zK,s.ZD.Zh k zK,s.e.Zh k zK,b,s.Zo.Zh k zK,s.store⟩
theorem Yx.xC(s:Yx o h wb i nb a n)(k:Kp (fun t=>t=.Zi i) o h o' h'){v:Nat}{l:List (Int × Cm)}(b:Wx o' (.Zi i) h' v (T6 Rc l)):Yx o' h' wb i nb { a with Zi:=v } { n with Zi:=l }:=
 ⟨s.data.Zh k,s.c.Zh k,s.Zc.Zh k (fun t c=>by rcases c with rfl|rfl|rfl|rfl|⟨z,rfl⟩<;>intro e<;>cases e),b,s.ZF.Zh k zK,s.ZD.Zh k zK,s.e.Zh k zK,s.Zd.Zh k zK,s.Zo.Zh k zK,s.store⟩
theorem Yx.Wy(s:Yx o h wb i nb a n)(k:Kp (Ql i) o h o' h'){f ra':RA}{r':XR}(hr:a.Zc=Z f)(m:ra'.rb=f.rb)(g:X1 o' i h' ra' r'):Yx o' h' wb i nb { a with Zc:=Z ra' } { n with Zc:=Z r' }:=by
 have q:∀t,t.of=Z i->(¬ ∃u,t=u/\Ql i u)->¬Ql i t:=fun t _ d c=>d ⟨t,rfl,c⟩;have e:∀t:Tg,(t=.Zi i\/t=.ZF i\/t=.ZD i\/t=.e i\/t=.Zd i\/t=.XM i)->¬Ql i t:=by
  intro t j hr;rcases j with rfl|rfl|rfl|rfl|rfl|rfl<;>rcases hr with e|e|e|e|⟨s,e⟩<;>cases e
 refine⟨s.data.Zh k,s.c.Zh k,g,s.Zi.Zh k (e _ zX),s.ZF.Zh k (e _ zX),s.ZD.Zh k (e _ zX),s.e.Zh k (e _ zX),s.Zd.Zh k (e _ zX),?_,s.store⟩;have b:=s.Zo.Zh k (e _ zX);show VU o' h' wb i nb (Z ra') a.Zo n.Zo;rw[hr]at b
 match hn:n.Zo,b with
 | none,b=>exact b
 | some (.QB _ _ _ _),b=>exact b
 | some (.Us _ _ _),b=>exact b
 | some (.Zn _ _ cur),⟨b6,b4,b7,b5,w,rb,h1,d,c,h4,h5,h6,h7⟩=>
  refine⟨b6,b4,b7,b5,w,rb,h1,d,c,h4,h5,h6,?_⟩
  grind
end
structure WA where
 Za:am
 b:am
 ZH:am
def Jv(YP:Nat->Int)(a:WA):List am:=[a.Za,a.b,O J 0,aC false,aC false,aC false,aC false,aC false,ae ak 0 0,O J (YP 0),O J (YP 1),O J (YP 2),O J (YP 3),O J (YP 4),a.ZH]
structure Z0(o:Ow)(h:Hp)(wb:Nat)(nb:Nat->Nat)(a:WA)(fl:List Yt)(YP:Nat->Int)(ZH:List PC):Prop where
 Yb:Ve o .world h wb (U (Jv YP a).toArray 92)
 Za:Xk o .Za 93 1 h a.Za 5 [ZC (nb 0),ZC (nb 1),ZC (nb 2),ZC (nb 3),ZC (nb 4)]
 b:Ww o .b h a.b fl
 ZH:Xk o .ZH 50 5 h a.ZH (Q ZH) (ZW NE ZH)
theorem Z0.Zh{wb:Nat}{nb:Nat->Nat}{a:WA}{fl:List Yt}{YP:Nat->Int}{ZH:List PC}(s:Z0 o h wb nb a fl YP ZH)(k:Kp S o h o' h')(b:∀t,S t->t.of≠ak):Z0 o' h' wb nb a fl YP ZH:=
 ⟨s.Yb.Zh k fun q=>b _ q rfl,s.Za.Zh k fun q=>b _ q rfl,s.b.Zh k fun q=>b _ q rfl,s.ZH.Zh k fun q=>b _ q rfl⟩
def WL(t:Tg):Prop:=False
section
variable {S:Tg->Prop} {o o':Ow} {h h':Hp}
theorem Z9(d:V3 o h)(b:Zm h.size h h'):Kp WL o h o h':=Kp.En d b _
theorem Ya(k:Kp WL o h o' h'):Kp S o h o' h':=k.mono fun _ q=>q.elim
theorem Yg.Zt{wb i nb:Nat}{a:NA}{n:Nd}(s:Yg o h wb i nb a n)(k:Kp WL o h o' h'):Yg o' h' wb i nb a n:=s.Zh k fun _ q=>q.elim
theorem Z0.Zt{wb:Nat}{nb:Nat->Nat}{a:WA}{fl:List Yt}{YP:Nat->Int}{ZH:List PC}(s:Z0 o h wb nb a fl YP ZH)(k:Kp WL o h o' h'):Z0 o' h' wb nb a fl YP ZH:=s.Zh k fun _ q=>q.elim
theorem YK(d:V3 o h)(x:Obj):Kp WL o h o (h.push x):=(Kp.refl d _).push x
end
structure j1(o:Ow)(h:Hp):Prop where
 tk:Tk h
 tn:aD 0 niv OM h
 fk:o 1=ak
 fn:o 0=ak
theorem bU{g:Nat}{f:Nat->am}{l:List Nat}(t:aD g f l h)(c:o g=ak)(k:Kp S o h o' h'):aD g f l h'/\o' g=ak:=by
 let⟨e,d⟩:=k.Zh g t.1 fun t b=>by grind
 grind [aD,hc]
theorem j1.Zh(t:j1 o h)(k:Kp S o h o' h'):j1 o' h':=
 ⟨(bU t.tk t.fk k).1,(bU t.tn t.fn k).1,(bU t.tk t.fk k).2,(bU t.tn t.fn k).2⟩
theorem Ig.len(s:Ig cs):(Q cs)=40:=by
 have:=YR s.fit;rw[this];rfl
theorem Ig.one(s:Ig cs):cs.all YV=true:=Pa s.fit
theorem ZcR(a:Option RA):YV (Lw a)=true:=by cases a<;>rfl
section
variable {h:Hp} {nb:Nat} {n:Nd} {a:NA}
structure ZcS(h:Hp)(nb:Nat)(n:Nd)(a:NA):Prop where
 me:hc h ⟨nb,0,ak⟩=Z (O J n.me)
 up:hc h ⟨nb,1,ak⟩=Z (aC n.up)
 tape:rd h ⟨nb,2,ak⟩ 2=Z [a.data,O J n.XI]
 Zn:rd h ⟨nb,4,ak⟩ 3=Z [O J n.Zn.p.r,O J n.Zn.p.n,a.c]
 iu:rd h ⟨nb,4,ak⟩ 2=Z [O J n.Zn.p.r,O J n.Zn.p.n]
 Zzg:hc h ⟨nb,4,ak⟩=Z (O J n.Zn.p.r)
 ZMk:hc h ⟨nb,5,ak⟩=Z (O J n.Zn.p.n)
 c:hc h ⟨nb,6,ak⟩=Z a.c
 Yy:rd h ⟨nb,7,ak⟩ 2=Z [O J n.Yy.r,O J n.Yy.n]
 Zlg:hc h ⟨nb,7,ak⟩=Z (O J n.Yy.r)
 Zc:hc h ⟨nb,9,ak⟩=Z (Lw a.Zc)
 Zi:hc h ⟨nb,10,ak⟩=Z (.map (Z a.Zi))
 ZF:hc h ⟨nb,11,ak⟩=Z a.ZF
 store:rd h ⟨nb,12,ak⟩ 40=Z n.store
 ZD:hc h ⟨nb,52,ak⟩=Z a.ZD
 e:hc h ⟨nb,53,ak⟩=Z a.e
 Zd:hc h ⟨nb,54,ak⟩=Z a.Zd
 Zo:hc h ⟨nb,55,ak⟩=Z a.Zo
 YO:hc h ⟨nb,56,ak⟩=Z (O J n.YO)
theorem Am(b:(Q n.store)=40):(Tj n a).length=57:=by
 unfold Tj;rw[aS,aS,b];rfl
theorem NF(b:(Q n.store)=40)(k:Nat):nth (Tj n a) (52+k)=nth [a.ZD,a.e,a.Zd,a.Zo,O J n.YO] k:=by
 unfold Tj;rw[X2,X2,a8 Fo,a8 Fo]
 congr 1
 simp;omega
theorem ZU(H:h[nb]? = Z (Jl n a))(b:(Q n.store)=40):ZcS h nb n a:=by
 have d:=Am (a:=a) b;have c:∀k,hc h ⟨nb,k,ak⟩=nth (Tj n a) k:=fun k=>Zr H;have r:∀k m,k+m<=57->rd h ⟨nb,k,ak⟩ m=Z (((Tj n a).drop k).take m):=fun k m e=>YZ H zK;refine⟨c 0,c 1,r 2 2 uh,r 4 3 uh,r 4 2 uh,c 4,c 5,c 6,r 7 2 uh,c 7,c 9,c 10,c 11,?_,(c 52).trans (NF b 0),(c 53).trans (NF b 1),(c 54).trans (NF b 2),(c 55).trans (NF b 3),(c 56).trans (NF b 4)⟩;rw[r 12 40 uh]
 congr 1
 unfold Tj;rw[List.drop_append_of_le_length zX];simp only[List.drop_succ_cons,List.drop_nil,List.drop_zero,bd]
 grind
structure Zlh(h:Hp)(nb:Nat)(n:Nd)(a:NA):Prop where
 up:∀v,Uf h ⟨nb,1,ak⟩ (aC v)=Z (al h nb (Jl { n with up:=v } a))
 tape:∀d s,YV d=true->wr h ⟨nb,2,ak⟩ [d,O J s]=Z (al h nb (Jl { n with XI:=s } { a with data:=d }))
 Zn:∀r k w,YV w=true->wr h ⟨nb,4,ak⟩ [O J r,O J k,w]=Z (al h nb (Jl { n with Zn:=⟨⟨r,k⟩,n.Zn.l⟩ } { a with c:=w }))
 Yy:∀r k,wr h ⟨nb,7,ak⟩ [O J r,O J k]=Z (al h nb (Jl { n with Yy:=⟨r,k⟩ } a))
 Zc:∀b,Uf h ⟨nb,9,ak⟩ (Lw b)=Z (al h nb (Jl n { a with Zc:=b }))
 ZF:∀v,YV v=true->Uf h ⟨nb,11,ak⟩ v=Z (al h nb (Jl n { a with ZF:=v }))
 store:∀cs:List am,(Q cs)=40->cs.all YV=true->wr h ⟨nb,12,ak⟩ cs=Z (al h nb (Jl { n with store:=cs } a))
 ZD:∀v,YV v=true->Uf h ⟨nb,52,ak⟩ v=Z (al h nb (Jl n { a with ZD:=v }))
 e:∀v,YV v=true->Uf h ⟨nb,53,ak⟩ v=Z (al h nb (Jl n { a with e:=v }))
 Zd:∀v,YV v=true->Uf h ⟨nb,54,ak⟩ v=Z (al h nb (Jl n { a with Zd:=v }))
 Zo:∀v,YV v=true->Uf h ⟨nb,55,ak⟩ v=Z (al h nb (Jl n { a with Zo:=v }))
 YO:∀k,Uf h ⟨nb,56,ak⟩ (O J k)=Z (al h nb (Jl { n with YO:=k } a))
theorem set_tail(pre b l:List am)(k:Nat)(v:am)(c:(Q pre)+(Q b)=52):(pre++(b++l)).set (52+k) v=pre++(b++l.set k v):=by
 grind
theorem X4(H:h[nb]? = Z (Jl n a))(e:(Q n.store)=40):Zlh h nb n a:=by
 have g:=Am (a:=a) e;have w1:∀(k:Nat) (v:am) (n':Nd) (f:NA),k<57->YV v=true->(Tj n a).set k v=Tj n' f->Uf h ⟨nb,k,ak⟩ v=Z (al h nb (Jl n' f)):=fun k v n' f m c p=>by
  grind [Jl,XZ]
 have w:∀(k:Nat) (vs:List am) (n':Nd) (f:NA),k+(Q vs)<=57->vs.all YV=true->XB (Tj n a) k vs=Tj n' f->wr h ⟨nb,k,ak⟩ vs=Z (al h nb (Jl n' f)):=fun k vs n' f m c p=>by
  grind [Jl,Yr]
 refine⟨fun v=>w1 _ _ _ _ uh rfl rfl,fun d s q=>w _ _ _ _ zX (by rw[bA,q];rfl) rfl,fun r k v c=>w _ _ _ _ zX (by simp only[bA,c];rfl) rfl,fun r k=>w _ _ _ _ zX (by simp[YV]) rfl,fun b=>w1 _ _ _ _ uh (ZcR b) rfl,fun v c=>w1 _ _ _ _ uh c rfl,fun cs j t=>w _ _ _ _ uh t ?_,
  fun v c=>w1 _ _ _ _ uh c ?_,fun v c=>w1 _ _ _ _ uh c ?_,fun v c=>w1 _ _ _ _ uh c ?_,fun v c=>w1 _ _ _ _ uh c ?_,fun k=>w1 _ _ _ _ uh rfl ?_⟩
 .unfold Tj;exact SO rfl (by rw[j,e])
 all_goals
  unfold Tj
  first
   | exact set_tail _ _ _ 0 _ (by rw[e];rfl)
   | exact set_tail _ _ _ 1 _ (by rw[e];rfl)
   | exact set_tail _ _ _ 2 _ (by rw[e];rfl)
   | exact set_tail _ _ _ 3 _ (by rw[e];rfl)
   | exact set_tail _ _ _ 4 _ (by rw[e];rfl)
end
section
variable {h:Hp} {wb:Nat} {YP:Nat->Int} {a:WA}
structure ZgZ(h:Hp)(wb:Nat)(YP:Nat->Int)(a:WA):Prop where
 Za:hc h ⟨wb,0,ak⟩=Z a.Za
 b:hc h ⟨wb,1,ak⟩=Z a.b
 ZH:hc h ⟨wb,14,ak⟩=Z a.ZH
 out:rd h ⟨wb,2,ak⟩ 13=Z [O J 0,aC false,aC false,aC false,aC false,aC false,ae ak 0 0,O J (YP 0),O J (YP 1),O J (YP 2),O J (YP 3),O J (YP 4),a.ZH]
 bV:∀v,YV v=true->Uf h ⟨wb,1,ak⟩ v=Z (al h wb (U (Jv YP { a with b:=v }).toArray 92))
 Zje:∀v,YV v=true->Uf h ⟨wb,14,ak⟩ v=Z (al h wb (U (Jv YP { a with ZH:=v }).toArray 92))
 Zli:∀v,YV v=true->Uf h ⟨wb,0,ak⟩ v=Z (al h wb (U (Jv YP { a with Za:=v }).toArray 92))
theorem Je(H:h[wb]? = Z (U (Jv YP a).toArray 92)):ZgZ h wb YP a:=by
 refine⟨Zr H,Zr H,Zr H,YZ H (by simp[Jv]),fun v b=>?_,fun v b=>?_,fun v b=>?_⟩
 all_goals
  rw[XZ H,if_pos ⟨by simp[Jv],b⟩];rfl
end
theorem Im.ZR{n:Nat}{m:Nat}(s:Im o n h v m cs):∃p c,v=ae p m c:=by
 let⟨p,c,h,_⟩:=s.fits;grind
theorem VH{α:Type}(enc:α->List am)(x:α):ZW enc [x]=enc x:=by simp[ZW]
def sJ(t:Tg):Prop:=t=.world\/t=.b
theorem TB(h:Hp)(o:Ow)(wb nb:Nat)(Y6:Nat->Nat)(me:Nat)(XY:WA)(fl:List Yt)(YP:Nat->Int)(ZH:List PC)(to:Int)(l:Yt)(w:am)(d:V3 o h)(W:Z0 o h wb Y6 XY fl YP ZH)(H:hc h ⟨nb,0,ak⟩=Z (O J me))(T4:nb<h.size)(iv:Ta o h w l.vs)(Xq:(Q fl)<=1000000000000):
  Zg aq T 99 #[ZC wb,ZC nb,O J to,aF (Jk l w).toArray] h fun K h'=>∃o' JY,Kp sJ o h o' h'/\(∀b,b<h.size->o' b=o b)/\Z0 o' h' wb Y6 JY (fl++[⟨l.a,me,to,l.b,l.v,l.vs⟩]) YP ZH:=by
 obtain⟨p,c,hw⟩:=iv.ZR;have JD:YV w=true:=by rw[hw];rfl
 have bW:=Zb W.Yb.2;have R0:=Je W.Yb.2;refine Zg.X8 [_,_,_,_] Tryz.func99 ?_;unfold ZC Jk;have G:nb≠h.size:=uh;have e2:wb≠h.size:=uh;simp only[go_sem,SI,G,H];refine VS.z (h.size+1) [7,10] (.p 0 (.p 1 (.p 2 (.p 3 (.q 4 (.q 5 (.s 6 (.w 7 (.p 8 (.p 9 (.w 10 .nil))))))))))) mixed zI ?_;simp only[go_sem,SI,qJ,G,e2,H,R0.b,bW];obtain⟨F,D⟩:=ZO (h.push (U (Jk ⟨l.a,me,to,l.b,l.v,l.vs⟩ w).toArray 143):Hp);have L:F.size=h.size+1:=by rw[D];simp
 obtain⟨A,C⟩:=ZO (F.push (U (Jk ⟨l.a,me,to,l.b,l.v,l.vs⟩ w).toArray 143):Hp);have B:((h.push (U (Jk ⟨l.a,me,to,l.b,l.v,l.vs⟩ w).toArray 143)).push (U (Jk ⟨l.a,me,to,l.b,l.v,l.vs⟩ w).toArray 143))=A:=by rw[C,D]
 unfold Jk at B;simp only at B;refine⟨Zm.push zX _,?_⟩;rw[B];have r:Kp (fun _=>False) o h o A:=by rw[C,D];exact ((Kp.refl d _).push _).push _
 have t:=W.Zh r (fun _ q=>q.elim);have V:=iv.Zh r;obtain⟨xs,WH,LU,M⟩:=t.b;have dp:(Q xs)=(Q fl):=by rw[<-WH,List.length_map]
 have src:Sl 14 A (ae (Z ⟨h.size+1,0,ak⟩) 1 1) 1 (Jk ⟨l.a,me,to,l.b,l.v,l.vs⟩ w):=by
  rw[C,<-L];exact Sl.made (by simp[Jk]) 1
 refine QM (E:=143) (n:=14) (bytes:=128) (k:=1) qS br Zbp qX rfl ZiX LU r.YG src (by rw[Jk,a4];intro x e;simp at e;rcases e with rfl|rfl|rfl|rfl|rfl|rfl|rfl|rfl|rfl|rfl|rfl|rfl|rfl|rfl<;>first|rfl|exact JD) uh uh ?_;intro K m z I f N;have g:=t.Yb.Zh f zK;have R3:=Je g.2;obtain⟨j,s,rfl,_⟩:=I.ZR;have X:=Zb g.2;have Y:=R3.bV (ae j ((Q xs)+1) s) rfl;simp only[go_sem,Y];have R:Kp sJ o h m z:=(r.mono fun _ q=>q.elim).trans (f.mono fun u q=>.inr q);have P:=R.set g.1 (.inl rfl) (U (Jv YP { XY with b:=ae j ((Q xs)+1) s }).toArray 92);have y:Kp (fun u=>u=.world) m z m (al z wb (U (Jv YP { XY with b:=ae j ((Q xs)+1) s }).toArray 92)):=(Kp.refl f.YG (fun u=>u=.world)).set g.1 rfl _;refine⟨m,{ XY with b:=ae j ((Q xs)+1) s },P,fun b hb=>N b zK,⟨g.1,Yp g.2⟩,(t.Za.Zh f zK).Zh y zK,⟨xs++[(⟨l.a,me,to,l.b,l.v,l.vs⟩,w)],?_,?_,fun x e=>?_⟩,(t.ZH.Zh f zK).Zh y zK⟩
 .grind
 .grind [Gs,Xk.Zh,Xd,VH]
 .rcases List.mem_append.1 e with e|e
  .exact ((M x e).Zh f).Zh y
  grind [Ta.Zh]
@[go_sem] theorem Zzi(x:Cm):XC [Z J,Z J,Z J,Z J,Z J] x.C=true:=rfl
@[go_sem] theorem Zzj(x y:Cm):leq x.C y.C=decide (x=y):=by
 let⟨a,b,c,d,e⟩:=x;let⟨k,j,c',g,f⟩:=y;unfold Q9.C Wg;rw[bf];simp[leq,ceq,Q9.mk.injEq]
@[go_sem] theorem Ih(x:Cm):x.C.length=5:=rfl
@[go_sem] theorem ZcU(x:Cm):x.C.all YV=true:=rfl
@[go_sem] theorem Zt9(x:Cm):XB [O J 0,O J 0,O J 0,O J 0,O J 0] 0 x.C=x.C:=rfl
theorem UD(s:Ts Q9.C 5 h v l):∃p c,v=ae p (Q l) c/\(l≠[]->∃b o,p=Z ⟨b,o,ak⟩/\b<h.size/\∀i (hi:i<(Q l)),rd h ⟨b,o+i*5,ak⟩ 5=Z (l[i]).C):=by
 grind [Ts.open,Ih,YU.rd]
def PH(l:List Cm)(x:Cm):Int:=if x∈l then (l.idxOf x:Int) else -1
theorem ZcV{x:Cm}{i:Nat}(hi:i<(Q l))(c:l[i]=x)(e:∀j (f:j<(Q l)),j<i->l[j]≠x):l.idxOf x=i:=by
 have b:x∈l:=c▸List.getElem_mem hi;have d:l.idxOf x<(Q l):=a3 b;have g:l[l.idxOf x]=x:=List.getElem_idxOf d;rcases Nat.lt_trichotomy (l.idxOf x) i with h|h|h
 .grind
 .exact h
 .have:=bc (p:=(· == x)) (xs:=l) (i:=i) h
  grind
theorem sK{x:Cm}{i:Nat}(hi:i<(Q l))(d:l[i]=x)(b:∀j (c:j<(Q l)),j<i->l[j]≠x):PH l x=i:=by
 grind [PH,ZcV]
theorem An{x:Cm}(b:∀j (c:j<(Q l)),l[j]≠x):PH l x = -1:=by
 grind [PH]
theorem Ii(l:List Cm)(x:Cm):0<=PH l x↔x∈l:=by
 grind [PH]
theorem E8(h:Hp)(v:am)(l:List Cm)(x:Cm)(s:Ts Q9.C 5 h v l)(N:(Q l)<=4611686018427387904):
  Zg aq T 71 #[v,Rc x] h fun A h'=>A=O J (PH l x)/\Zm h.size h h':=by
 obtain⟨p,c,rfl,M⟩:=UD s;refine Zg.X8 [_,_] Tryz.func71 ?_;unfold Rc;simp only[go_sem];let⟨t,r⟩:=ZO (h.push (U (ao x.C) 43):Hp);have u:Zm h.size h t:=by rw[r];exact Zm.push (aw _) _
 have z:t[h.size]? = Z (U (ao x.C) 43):=by rw[r];exact Zf
 rw[<-r];clear r;refine VS.YC (fun F g=>g=t/\F 0=ae p (Q l) c/\F 3=an (Z ⟨h.size,0,ak⟩)/\F 7=O J (Q l)/\∃i:Nat,i<=(Q l)/\F 8=O J i/\∀j (f:j<(Q l)),j<i->l[j]≠x)
  (fun F _=>(Q l)-(vi (F 8)).toNat) rfl ⟨rfl,rfl,rfl,rfl,0,uh,rfl,fun j f q=>by omega⟩ ?_
 rintro F g ⟨rfl,m,k,d,i,hi,b,L⟩;by_cases y:i<(Q l)
 .have w:(i:Int)<(Q l):=uh;obtain⟨G,E,rfl,K,H⟩:=M zK;have B:rd g ⟨G,E+i*5,ak⟩ 5=Z (l[i]).C:=by rw[Ut u (by exact K)];exact H i y
  have C:rd g ⟨h.size,0,ak⟩ 5=Z x.C:=ZB z rfl;simp only[go_sem,m,k,d,b,w];refine VS.q mixed zI ?_;simp only[go_sem,m,k,d,b,w,B,C];by_cases q:l[i]=x
  .grind [sK]
  .have D:¬x=l[i]:=fun e=>q e.symm;simp only[go_sem,D,m,k,d,b];refine⟨⟨rfl,m,k,d,i+1,y,rfl,fun j f P=>?_⟩,?_⟩
   .grind
   .simp only[vi,Zu,↓reduceIte,b];omega
 .have I:¬(i:Int)<(Q l):=uh;have e:=An (l:=l) (x:=x) fun j f=>L j f uh;simp only[go_sem,d,b,I,e,u]
theorem RJ(h:Hp)(v:am)(l:List Cm)(x:Cm)(s:Ts Q9.C 5 h v l)(e:(Q l)<=4611686018427387904):
  Zg aq T 73 #[v,Rc x] h fun d h'=>d=aC (decide (x∈l))/\Zm h.size h h':=by
 obtain⟨p,c,rfl,j⟩:=UD s;refine Zg.X8 [_,_] Tryz.func73 ?_;unfold Rc;simp only[go_sem];refine (E8 T _ _ l x (s.YQ ((Zm.refl _ _).add _)) e).use ?_;rintro _ f ⟨rfl,g⟩;have b:Zm h.size h f:=((Zm.refl _ _).add _).trans (g.mono zX);simp only[go_sem,Ii,b]
theorem Ao(h:Hp)(b:Nat)(x y:Cm)(hb:h[b]? = Z (U (ao x.C) 43)):
  Zg aq T 134 #[Rc y,ZC b] h fun c h'=>c=aC (decide (y=x))/\Zm h.size h h':=by
 have f:=Zb hb;refine Zg.X8 [_,_] Tryz.func134 ?_;unfold Rc ZC;have g:b≠h.size:=uh;have e:rd (h.push (U (ao y.C) 43)) ⟨h.size,0,ak⟩ 5=Z y.C:=ZB Zf rfl;have d:rd (h.push (U (ao y.C) 43)) ⟨b,0,ak⟩ 5=Z x.C:=ZB (by rw[ZX f];exact hb) rfl;simp only[go_sem,e,d]
def Gv(b:Nat):am:=SD 134 [b]
theorem E9(h:Hp)(v:am)(l:List Cm)(b:Nat)(x:Cm)(s:Ts Q9.C 5 h v l)(hb:h[b]? = Z (U (ao x.C) 43))(K:(Q l)<=4611686018427387904):
  Zg aq T 136 #[v,Gv b] h fun y h'=>y=O J (PH l x)/\Zm h.size h h':=by
 obtain⟨p,c,rfl,I⟩:=UD s;refine Zg.X8 [_,_] Tryz.func136 ?_;have r:=Zb hb;unfold Gv SD;simp only[go_sem];refine VS.YC (fun F g=>Zm h.size h g/\F 0=ae p (Q l) c/\F 1=Gv b/\F 7=O J (Q l)/\∃i:Nat,i<=(Q l)/\F 8=O J i/\∀j (k:j<(Q l)),j<i->l[j]≠x)
  (fun F _=>(Q l)-(vi (F 8)).toNat) rfl ⟨Zm.refl _ _,rfl,rfl,rfl,0,uh,rfl,fun j k q=>by omega⟩ ?_
 rintro F g ⟨d,t,f1,m,i,hi,f,u⟩;by_cases r:i<(Q l)
 .have E:(i:Int)<(Q l):=uh;obtain⟨B,A,rfl,H,D⟩:=I zK;have z:rd g ⟨B,A+i*5,ak⟩ 5=Z (l[i]).C:=by rw[Ut d (by exact H)];exact D i r
  unfold Gv SD at f1;simp only[a9]at f1;simp only[go_sem,t,f1,m,f,E,z];refine (Ao T g b x l[i] (d.get uh hb)).use ?_;rintro _ g1 ⟨rfl,C⟩;have w:Zm h.size h g1:=d.trans (C.mono d.size);by_cases q:l[i]=x
  .have e:=sK r q u;simp only[go_sem,q,f,e,w]
  .simp only[go_sem,q,t,f1,m,f];refine⟨⟨w,t,f1,m,i+1,r,rfl,fun j k L=>?_⟩,?_⟩
   .grind
   .simp only[vi,Zu,↓reduceIte,f];omega
 .have G:¬(i:Int)<(Q l):=uh;have e:=An (l:=l) (x:=x) fun j k=>u j k uh;simp only[go_sem,m,f,G,e,d]
theorem iw(h:Hp)(o:Ow)(t:Tg)(v:am)(m i:Nat)(cs:List am)(s:Xk o t 43 5 h v m cs)(d:V3 o h)(JD:cs.all YV=true)(hi:i<m)(hm:m<=4611686018427387904):
  Zg aq T 137 #[v,O J i,O J ((i:Int)+1)] h fun L h'=>Xk o t 43 5 h' L (m-1) (cs.take (i*5)++cs.drop ((i+1)*5))/\Kp (fun u=>u=t) o h o h':=by
 rcases s with⟨⟨p,rfl⟩,rfl,rfl⟩|⟨b,off,cap,pre,ZT,B,rfl,j,A,c,W,z⟩
 .omega
 refine Zg.X8 [_,_,_] Tryz.func137 ?_;have K:(i:Int)<=m:=uh;have I:(i:Int)+1<=m:=uh;have r:(m:Int)<=cap:=uh;have H:(i:Int)≠i+1:=uh;have G:((i:Int)+1).toNat=i+1:=uh;have F:(0:Int)<=i+1:=uh;have D:(i:Int)<=i+1:=uh;have C:(i:Int)<=cap:=uh;have c0:cap≠0:=uh;simp only[go_sem,K,I,r,H,G,F,D,C];refine VS.z (h.size) [6] (.p 0 (.p 1 (.p 2 (.p 3 (.p 4 (.p 5 (.w 6 (.p 7 .nil)))))))) mixed zI ?_;simp only[go_sem,K,I,r,H,G,F,D,C,c0];have N:i*5<=m*5:=a0 _ uh;have a1:(i+1)*5<=m*5:=a0 _ uh;have zE:m*5<=cap*5:=a0 _ z;have Yb:h[b]? = Z (U (pre++(cs.take (i*5)++(cs.drop (i*5)++ZT))).toArray 43 (0,0)):=by
  rw[<-aL (bE _ _),aH];exact j
 have src:Sl 5 h (ae (if cap=i+1 then Z ⟨b,off,ak⟩ else Z ⟨b,off+(i+1)*5,ak⟩) (m-(i+1)) (cap-(i+1))) (m-(i+1)) (cs.drop ((i+1)*5)):=by
  have:=(Xk.tail (k:=i+1) (.inr ⟨b,off,cap,pre,ZT,B,rfl,j,A,c,W,z⟩:Xk o t 43 5 h (ae (Z ⟨b,off,ak⟩) m cap) m cs) uh).sl;rw[bg,X9]at this;exact this
 have P:(cs.drop ((i+1)*5)).length=(m-(i+1))*5:=by rw[aV,c,bh]
 refine Eo (E:=43) (n:=5) (m:=i) (k:=m-(i+1)) (cs:=cs.take (i*5)) fw bt Zkd Zbo Yb A.symm zK src (a4.2 fun x R=>a4.1 JD x (bk R)) uh zK ?_;let⟨g,f⟩:=ZO (al h b (U (pre++((cs.take (i*5)++cs.drop ((i+1)*5))++(cs.drop (i*5)++ZT).drop ((m-(i+1))*5))).toArray 43 (0,0)):Hp);rw[<-f];have kg:Kp (fun u=>u=t) o h o g:=by rw[f];exact (Kp.refl d (fun u=>u=t)).set B rfl _
 have e:=Yp (o:=U (pre++((cs.take (i*5)++cs.drop ((i+1)*5))++(cs.drop (i*5)++ZT).drop ((m-(i+1))*5))).toArray 43 (0,0)) j;rw[<-f]at e;have e9:i+(m-(i+1))=m-1:=uh;have f1:((m-1:Nat):Int)<=m:=uh;have f2:(0:Int)<=((m-1:Nat):Int):=uh;have f3:cap≠m-1:=uh;have f4:(((m-1:Nat):Int)).toNat=m-1:=uh;have Y:(0:Int)<=m:=uh;have X:((m-1:Nat):Int)<=cap:=uh;rw[e9];simp only[go_sem,r,f1,f2,f3,f4,Y,X];have M:((cs.drop (i*5)++ZT).drop ((m-(i+1))*5)).length=5+(Q ZT):=by
  rw[aV,aS,aV,c];have:(m-(i+1))*5+5=m*5-i*5:=by rw[<-bh,<-Nat.succ_mul];congr 1;omega
  omega
 let⟨tail,V⟩:=ZO ((cs.drop (i*5)++ZT).drop ((m-(i+1))*5));rw[<-V]at e M;let⟨body,y⟩:=ZO (cs.take (i*5)++cs.drop ((i+1)*5));have bl:(Q body)=(m-1)*5:=by
  rw[y,aS,aX,P,c,a6 N,<-Nat.add_mul];congr 1
 rw[<-y]at e ⊢;have q:g[b]? = Z (U ((pre++body)++(tail.take 5++tail.drop 5)).toArray 43 (0,0)):=by
  rw[aH,aL];exact e
 have w:m-(m-1)=1:=uh;rw[w];refine IQ (E:=43) (n:=5) (k:=1) fw Zbo rfl rfl q zK aac ?_;intro new CZ;simp only[go_sem]
 grind [Kp.set,Xk,Yp,aS]
theorem ix(h:Hp)(o:Ow)(t:Tg)(v:am)(m i:Nat)(cs:List am)(s:Xk o t 143 14 h v m cs)(d:V3 o h)(JD:cs.all YV=true)(hi:i<m)(hm:m<=4611686018427387904):
  Zg aq T 77 #[v,O J i,O J ((i:Int)+1)] h fun L h'=>Xk o t 143 14 h' L (m-1) (cs.take (i*14)++cs.drop ((i+1)*14))/\Kp (fun u=>u=t) o h o h':=by
 rcases s with⟨⟨p,rfl⟩,rfl,rfl⟩|⟨b,off,cap,pre,ZT,B,rfl,j,A,c,W,z⟩
 .omega
 refine Zg.X8 [_,_,_] Tryz.func77 ?_;have K:(i:Int)<=m:=uh;have I:(i:Int)+1<=m:=uh;have r:(m:Int)<=cap:=uh;have H:(i:Int)≠i+1:=uh;have G:((i:Int)+1).toNat=i+1:=uh;have F:(0:Int)<=i+1:=uh;have D:(i:Int)<=i+1:=uh;have C:(i:Int)<=cap:=uh;have c0:cap≠0:=uh;simp only[go_sem,K,I,r,H,G,F,D,C];refine VS.z (h.size) [6] (.p 0 (.p 1 (.p 2 (.p 3 (.p 4 (.p 5 (.w 6 (.p 7 .nil)))))))) mixed zI ?_;simp only[go_sem,K,I,r,H,G,F,D,C,c0];have N:i*14<=m*14:=a0 _ uh;have a1:(i+1)*14<=m*14:=a0 _ uh;have zE:m*14<=cap*14:=a0 _ z;have Yb:h[b]? = Z (U (pre++(cs.take (i*14)++(cs.drop (i*14)++ZT))).toArray 143 (0,0)):=by
  rw[<-aL (bE _ _),aH];exact j
 have src:Sl 14 h (ae (if cap=i+1 then Z ⟨b,off,ak⟩ else Z ⟨b,off+(i+1)*14,ak⟩) (m-(i+1)) (cap-(i+1))) (m-(i+1)) (cs.drop ((i+1)*14)):=by
  have:=(Xk.tail (k:=i+1) (.inr ⟨b,off,cap,pre,ZT,B,rfl,j,A,c,W,z⟩:Xk o t 143 14 h (ae (Z ⟨b,off,ak⟩) m cap) m cs) uh).sl;rw[bg,X9]at this;exact this
 have P:(cs.drop ((i+1)*14)).length=(m-(i+1))*14:=by rw[aV,c,bh]
 refine Eo (E:=143) (n:=14) (m:=i) (k:=m-(i+1)) (cs:=cs.take (i*14)) qS br Zbp qX Yb A.symm zK src (a4.2 fun x R=>a4.1 JD x (bk R)) uh zK ?_;let⟨g,f⟩:=ZO (al h b (U (pre++((cs.take (i*14)++cs.drop ((i+1)*14))++(cs.drop (i*14)++ZT).drop ((m-(i+1))*14))).toArray 143 (0,0)):Hp);rw[<-f];have kg:Kp (fun u=>u=t) o h o g:=by rw[f];exact (Kp.refl d (fun u=>u=t)).set B rfl _
 have e:=Yp (o:=U (pre++((cs.take (i*14)++cs.drop ((i+1)*14))++(cs.drop (i*14)++ZT).drop ((m-(i+1))*14))).toArray 143 (0,0)) j;rw[<-f]at e;have e9:i+(m-(i+1))=m-1:=uh;have f1:((m-1:Nat):Int)<=m:=uh;have f2:(0:Int)<=((m-1:Nat):Int):=uh;have f3:cap≠m-1:=uh;have f4:(((m-1:Nat):Int)).toNat=m-1:=uh;have Y:(0:Int)<=m:=uh;have X:((m-1:Nat):Int)<=cap:=uh;rw[e9];simp only[go_sem,r,f1,f2,f3,f4,Y,X];have M:((cs.drop (i*14)++ZT).drop ((m-(i+1))*14)).length=14+(Q ZT):=by
  rw[aV,aS,aV,c];have:(m-(i+1))*14+14=m*14-i*14:=by rw[<-bh,<-Nat.succ_mul];congr 1;omega
  omega
 let⟨tail,V⟩:=ZO ((cs.drop (i*14)++ZT).drop ((m-(i+1))*14));rw[<-V]at e M;let⟨body,y⟩:=ZO (cs.take (i*14)++cs.drop ((i+1)*14));have bl:(Q body)=(m-1)*14:=by
  rw[y,aS,aX,P,c,a6 N,<-Nat.add_mul];congr 1
 rw[<-y]at e ⊢;have q:g[b]? = Z (U ((pre++body)++(tail.take 14++tail.drop 14)).toArray 143 (0,0)):=by
  rw[aH,aL];exact e
 have w:m-(m-1)=1:=uh;rw[w];refine IQ (E:=143) (n:=14) (k:=1) qS qX rfl rfl q zK aac ?_;intro new CZ;simp only[go_sem]
 grind [Kp.set,Xk,Yp,aS]
section
variable {α:Type} {enc:α->List am} {n:Nat}
theorem Ms(b:∀x,(enc x).length=n)(l:List α)(i:Nat)(hi:i<=(Q l)):(ZW enc l).take (i*n)=ZW enc (l.take i):=by
 have c:(ZW enc (l.take i)).length=i*n:=by rw[QG b,aX,a6 hi]
 grind [Xd,aH]
theorem PI(b:∀x,(enc x).length=n)(l:List α)(i:Nat)(hi:i<=(Q l)):(ZW enc l).drop (i*n)=ZW enc (l.drop i):=by
 have c:(ZW enc (l.take i)).length=i*n:=by rw[QG b,aX,a6 hi]
 grind [Xd,aH]
theorem ZcW(b:∀x,(enc x).length=n)(l:List α)(i:Nat)(hi:i<(Q l))(y:α):ZW enc (l.set i y)=(ZW enc l).take (i*n)++(enc y++(ZW enc l).drop ((i+1)*n)):=by
 grind [ZW,List.set_eq_take_append_cons_drop,Xd,Ms,PI]
end
theorem Zg0(l:List Cm):(ZW Q9.C l).all YV=true:=by
 induction l with
 | nil=>rfl
 | cons x l b=>rw[ZW,List.all_append,b];rfl
theorem RK{j:Nat}(b:j<(Q l))(q:Cm->Bool):(l.take (j+1)).filter q=(l.take j).filter q++if q l[j]=true then [l[j]] else []:=by
 grind [Xg]
theorem iy{x:Cm}{i:Nat}(h:PH l x=i):i<(Q l)/\(l.take i).filter (fun y=>decide (y≠x))=l.take i/\l[i]? = Z x:=by
 unfold PH at h;split at h
 .rename_i c;have hi:l.idxOf x=i:=uh;have e:l.idxOf x<(Q l):=a3 c;refine⟨uh,?_,?_⟩
  .rw[bo];intro y b;obtain⟨k,d,rfl⟩:=bq b;rw[aX]at d;rw[List.getElem_take];have:=bc (p:=(· == x)) (xs:=l) (i:=k) (show k<List.findIdx (· == x) l by rw[show List.findIdx (· == x) l=l.idxOf x from rfl];omega)
   grind
  grind
 .omega
theorem iz(h:Hp)(o:Ow)(t:Tg)(v:am)(l:List Cm)(bx:Nat)(x:Cm)(s:WU o t h v l)(d:V3 o h)(hb:Yo o h bx (U (ao x.C) 43))(hl:(Q l)<=4611686018427387904):
  Zg aq T 135 #[v,Gv bx] h fun v' h'=>WU o t h' v' (l.filter fun y=>decide (y≠x))/\Kp (fun u=>u=t) o h o h':=by
 have ts:Ts Q9.C 5 h v l:=⟨s.sl⟩
 obtain⟨p,c,rfl,Jx⟩:=UD ts;refine Zg.X8 [_,_] Tryz.func135 ?_;unfold Gv SD;simp only[go_sem];refine (E9 T h _ l bx x ts hb.2 hl).use ?_;rintro _ h1 ⟨rfl,b1⟩;have k1:Kp (fun u=>u=t) o h o h1:=Kp.En d b1 _;by_cases hm:x∈l
 case neg=>
  have e:PH l x = -1:=by unfold PH;rw[if_neg hm]
  have e2:(l.filter fun y=>decide (y≠x))=l:=by
   rw[bo];intro y hy;simpa using fun q=>hm zK
  simp only[go_sem,e,e2];exact⟨WU.Zh (S:=fun _=>False) s (Kp.En d b1 _) id,k1⟩
 obtain⟨V,OO⟩:∃i:Nat,PH l x=i:=⟨l.idxOf x,by unfold PH;grind⟩
 let⟨hi,hf,hx⟩:=iy OO;rcases s with⟨⟨q,bG⟩,bl,b9⟩|⟨b,off,cap,pre,ZT,R,hv,o3,o4,o5,o6,o7⟩
 .omega
 simp only[Value.slice.injEq]at hv;obtain⟨rfl,_,rfl⟩:=hv;have i1:¬((V:Nat):Int) = -1:=uh;simp only[go_sem,OO,i1];obtain⟨q,hq⟩:∃q:Cm->Bool,q=fun y=>decide ¬y=x:=⟨_,rfl⟩
 have aW:(fun y=>decide (y≠x))=q:=by rw[hq]
 have H:∀y,q y=decide ¬y=x:=fun y=>by rw[hq]
 rw[aW]at hf;rw[<-hq];have b7:l[V]=x:=by rw[a5 hi]at hx;exact aag hx
 have sl:(Q l)<=c:=o7;have X:∀L:List Cm,(ZW Q9.C L).length=(Q L)*5:=fun L=>QG (n:=5) Ih L;refine VS.YC (fun F g=>F 0=ae (Z ⟨b,off,ak⟩) (Q l) c/\F 1=Gv bx/\Kp (fun u=>u=t) o h o g/\∃(i j:Nat) (L:List Cm),F 5=O J i/\F 6=O J j/\j<=(Q l)/\i<j/\(Q L)=(Q l)/\L.take i=(l.take j).filter q/\L.drop j=l.drop j/\i=((l.take j).filter q).length /\
   g[b]? = Z (U (pre++(ZW Q9.C L++ZT)).toArray 43 (0,0)))
  (fun F _=>(Q l)-(vi (F 6)).toNat) rfl ⟨rfl,rfl,k1,V,V+1,l,rfl,?_,uh,uh,rfl,?_,rfl,?_,b1.get (Zb o3) o3⟩ ?_
 .show Value.int J _=_
  congr 1
 .grind [RK]
 .grind [RK]
 rintro F g ⟨w,f1,kg,i,j,L,C,B,hj,b8,hL,N,M,ut,W⟩;unfold Gv SD at f1;simp only[a9]at f1;have gl:=Zb W;by_cases Y:j<(Q l)
 .have Yh:(j:Int)<(Q l):=uh;have K:L[j]? = l[j]?:=by
   have:=congrArg (fun z=>z[0]?) M
   simpa using this
  have I:j<(Q L):=uh;have b2:L[j]=l[j]:=by
   rw[a5 I,a5 Y]at K;exact aag K
  have ow:Xk o t 43 5 g (ae (Z ⟨b,off,ak⟩) (Q L) c) (Q L) (ZW Q9.C L):=.inr ⟨b,off,c,pre,ZT,R,rfl,W,o4,X L,zK,uh⟩;let⟨p2,c2,G,ax⟩:=UD (⟨ow.sl⟩:Ts Q9.C 5 g _ L);let⟨bb,oo,b0,_,hr⟩:=ax zK;subst b0;simp only[Value.slice.injEq,Option.some.injEq,Addr.mk.injEq]at G;obtain⟨⟨rfl,rfl,_⟩,_,rfl⟩:=G;have r1:rd g ⟨b,off+j*5,ak⟩ 5=Z (l[j]).C:=by rw[hr j I,b2]
  simp only[go_sem,w,f1,C,B,Yh,r1];have A:=hb.Zh kg;have bK:bx≠g.size:=by have:=Zb A.2;omega
  refine (Ao T _ bx x l[j] (by rw[ZX (Zb A.2)];exact A.2)).use ?_;rintro _ g1 ⟨rfl,P⟩;have bp:Zm g.size g g1:=(Zm.push (aw _) _).trans (P.mono zX);have D:Kp (fun u=>u=t) o h o g1:=kg.YQ bp;have r:=bp.get gl W;have b6:g1[g.size]? = Z (U (l[j]).C.toArray 43):=P.get zX Zf;have yr:rd g1 ⟨g.size,0,ak⟩ 5=Z (l[j]).C:=ZB b6 rfl;have fs:=RK Y q;have b3:∀L':List Cm,L'.drop j=l.drop j->L'.drop (j+1)=l.drop (j+1):=fun L' h=>by
   rw[<-bn,<-bn,h]
  by_cases m:l[j]=x
  .have b5:(l.take (j+1)).filter q=(l.take j).filter q:=by rw[fs,H,if_neg (by simp[m]),a7]
   simp only[go_sem,m,w,f1,C,B];refine⟨⟨w,f1,D,i,j+1,L,C,rfl,Y,uh,hL,zK,b3 L M,zK,r⟩,?_⟩;simp only[vi,Zu,↓reduceIte,B];omega
  .have b5:(l.take (j+1)).filter q=(l.take j).filter q++[l[j]]:=by rw[fs,H,if_pos (by simp[m])]
   have a2:(0:Int)<=i:=uh;have a1:(i:Int)<(Q l):=uh;have f:i<(Q L):=uh;have w1:=Yr r (off+i*5) (l[j]).C;have eL:XB (pre++(ZW Q9.C L++ZT)) (off+i*5) (l[j]).C=pre++(ZW Q9.C (L.set i l[j])++ZT):=by
    have e1:ZW Q9.C L=(ZW Q9.C L).take (i*5)++(((ZW Q9.C L).drop (i*5)).take 5++(ZW Q9.C L).drop ((i+1)*5)):=by
     have:(ZW Q9.C L).drop ((i+1)*5)=((ZW Q9.C L).drop (i*5)).drop 5:=by rw[bn];congr 1;omega
     rw[this,aH,aH]
    have hle:(i+1)*5<=(ZW Q9.C L).length:=by rw[X];omega
    rw[ZcW Ih L i f]
    conv=>lhs;rw[e1]
    have e2:pre++(((ZW Q9.C L).take (i*5)++(((ZW Q9.C L).drop (i*5)).take 5++(ZW Q9.C L).drop ((i+1)*5)))++ZT)=(pre++(ZW Q9.C L).take (i*5))++(((ZW Q9.C L).drop (i*5)).take 5++((ZW Q9.C L).drop ((i+1)*5)++ZT)):=by simp only[aL]
    rw[e2,SO zK (by rw[aX,aV,Ih];omega)];simp only[aL]
   rw[eL,if_pos ⟨by grind [Ih],ZcU _⟩]at w1;simp only[go_sem,m,w,f1,C,B,yr,a2,a1,w1];refine⟨⟨w,f1,D.set R rfl _,i+1,j+1,L.set i l[j],rfl,rfl,Y,uh,zK,?_,?_,?_,Yp r⟩,?_⟩
   .grind [Xg,List.take_set_of_le]
   .grind [List.drop_set_of_lt]
   .grind
   .simp only[vi,Zu,↓reduceIte,B];omega
 .have XX:¬(j:Int)<(Q l):=uh;obtain rfl:j=(Q l):=uh;rw[List.take_length]at N ut;have f:i<=(Q L):=uh;have b4:g[b]? = Z (U ((pre++ZW Q9.C (L.take i))++(ZW Q9.C (L.drop i)++ZT)).toArray 43 (0,0)):=by
   rw[<-Ms Ih L i f,<-PI Ih L i f];have:(pre++(ZW Q9.C L).take (i*5))++((ZW Q9.C L).drop (i*5)++ZT)=pre++(ZW Q9.C L++ZT):=by
    rw[aL,<-aL (bE _ _),aH]
   rw[this];exact W
  have tl:(ZW Q9.C (L.take i)).length=i*5:=by rw[X,aX,a6 f]
  simp only[go_sem,w,C,B,XX];refine IQ (E:=43) (n:=5) (k:=(Q l)-i) fw Zbo rfl rfl b4 zK zK ?_;intro new CZ;have i2:(i:Int)<=c:=uh;simp only[go_sem,i2,w,C];have e:(ZW Q9.C (L.take i))=ZW Q9.C (l.filter q):=by rw[N]
  refine⟨.inr ⟨b,off,c,pre,new++ZT,R,by rw[<-ut],?_,o4,X _,?_,uh⟩,kg.set R rfl _⟩
  .grind
  grind
@[go_sem] theorem Zzo(x:Vt):XC [Z J,Z J,Z J,Z J,Z J,Z J,Z J,Z J] (Zz x)=true:=rfl
@[go_sem] theorem Zzp(x y:Vt):leq (Zz x) (Zz y)=decide (x=y):=by
 let⟨a,⟨b,c⟩,d,e,f,g,k⟩:=x;let⟨m,⟨j,c'⟩,d',e',f',g',k'⟩:=y;unfold Zz;rw[bf];simp[leq,ceq,Vt.mk.injEq,and_assoc]
@[go_sem] theorem Zud(x:ZN):XC [Z J,Z J] (Q0 x)=true:=rfl
@[go_sem] theorem Zue(x y:ZN):leq (Q0 x) (Q0 y)=decide (x=y):=by
 let⟨a,b⟩:=x;let⟨d,c⟩:=y;unfold Q0;rw[bf];simp[leq,ceq,ZN.mk.injEq]
@[go_sem] theorem Zqg(x:Vt):(Zz x).length=8:=rfl
theorem Da{l:List Vt}(s:Ts Zz 8 h v l):∃p c,v=ae p (Q l) c/\(l≠[]->∃b o,p=Z ⟨b,o,ak⟩/\b<h.size/\∀i (hi:i<(Q l)),rd h ⟨b,o+i*8,ak⟩ 8=Z (Zz l[i])):=by
 grind [Ts.open,Zqg,YU.rd]
theorem nN(h:Hp)(v:am)(l:List Vt)(x:Vt)(s:Ts Zz 8 h v l)(P:(Q l)<=4611686018427387904):
  Zg aq T 138 #[v,aF (Zz x).toArray] h fun A h'=>(∃i:Int,A=O J i/\(0<=i↔x∈l))/\Zm h.size h h':=by
 obtain⟨p,c,rfl,M⟩:=Da s;refine Zg.X8 [_,_] Tryz.func138 ?_;simp only[go_sem];let⟨r,m⟩:=ZO (h.push (U (Zz x).toArray 141):Hp);have u:Zm h.size h r:=by rw[m];exact Zm.push (aw _) _
 have z:r[h.size]? = Z (U (Zz x).toArray 141):=by rw[m];exact Zf
 rw[<-m];clear m;refine VS.YC (fun F g=>g=r/\F 0=ae p (Q l) c/\F 3=an (Z ⟨h.size,0,ak⟩)/\F 7=O J (Q l)/\∃i:Nat,i<=(Q l)/\F 8=O J i/\∀j (t:j<(Q l)),j<i->l[j]≠x)
  (fun F _=>(Q l)-(vi (F 8)).toNat) rfl ⟨rfl,rfl,rfl,rfl,0,uh,rfl,fun j t q=>by omega⟩ ?_
 rintro F g ⟨rfl,k,f,d,i,hi,b,R⟩;by_cases y:i<(Q l)
 .have w:(i:Int)<(Q l):=uh;obtain⟨H,E,rfl,L,I⟩:=M zK;have B:rd g ⟨H,E+i*8,ak⟩ 8=Z (Zz l[i]):=by rw[Ut u (by exact L)];exact I i y
  have C:rd g ⟨h.size,0,ak⟩ 8=Z (Zz x):=ZB z rfl;simp only[go_sem,k,f,d,b,w];refine VS.q mixed zI ?_;simp only[go_sem,k,f,d,b,w,B,C];by_cases q:l[i]=x
  .grind
  .have D:¬x=l[i]:=fun e=>q e.symm;simp only[go_sem,D,k,f,d,b];refine⟨⟨rfl,k,f,d,i+1,y,rfl,fun j t V=>?_⟩,?_⟩
   .grind
   .simp only[vi,Zu,↓reduceIte,b];omega
 .have K:¬(i:Int)<(Q l):=uh;have G:x ∉ l:=fun N=>by grind [bq]
  simp only[go_sem,d,b,K,u,G]
  grind
theorem C7(h:Hp)(v:am)(l:List Vt)(x:Vt)(s:Ts Zz 8 h v l)(e:(Q l)<=4611686018427387904):
  Zg aq T 113 #[v,aF (Zz x).toArray] h fun d h'=>d=aC (decide (x∈l))/\Zm h.size h h':=by
 obtain⟨p,c,rfl,j⟩:=Da s;refine Zg.X8 [_,_] Tryz.func113 ?_;simp only[go_sem];refine (nN T _ _ l x (s.YQ ((Zm.refl _ _).add _)) e).use ?_;rintro _ f ⟨⟨i,rfl,hi⟩,g⟩;have b:Zm h.size h f:=((Zm.refl _ _).add _).trans (g.mono zX);simp only[go_sem,hi,b]
theorem Ij(h:Hp)(a b:ZN):Zg aq T 97 #[aF (Q0 a).toArray,aF (Q0 b).toArray] h fun g h'=>g=aC (decide (Zj b a))/\Zm h.size h h':=by
 refine Zg.X8 [_,_] Tryz.func97 ?_;unfold Q0;by_cases c:b.r<a.r
 .have e:Zj b a:=.inl c;simp only[go_sem,c,e]
  all_goals exact aaf
 .by_cases d:a.r=b.r
  .by_cases f:b.n<a.n
   .have e:Zj b a:=.inr ⟨d.symm,f⟩;simp only[go_sem,c,d,f,e]
    all_goals exact aaf
   .have e:¬Zj b a:=fun h=>by rcases h with h|⟨_,h⟩<;>omega
    simp only[go_sem,c,d,f,e]
    all_goals exact aaf
  .have e:¬Zj b a:=fun h=>by rcases h with h|⟨h,_⟩<;>omega
   simp only[go_sem,c,d,e]
   all_goals exact aaf
theorem FK(h:Hp)(n:Nat)(c:n<=1000000000000):Zg aq T 110 #[O J n] h fun b h'=>b=aC (decide (5<2*n))/\h'=h:=by
 refine Zg.X8 [_] Tryz.func110 ?_;have e:((5:Int)<2*(n:Int))=(5<2*n):=by apply propext;omega
 simp only[go_sem,e]
theorem WU.ts{t:Tg}(s:WU o t h v l):Ts Q9.C 5 h v l:=⟨Xk.sl s⟩
theorem He{T:World}{K:am->Hp->Prop}{ty:TypeId}{t:Tg}{x:Cm}{bx:Nat}{cb:Array Bool}(s:WU o t h v l)(d:V3 o h)(hb:h[bx]? = Z (U (ao x.C) 43))(hr:(Q l)<=1000000000000)(H:∀p c o' h',WU o' t h' (ae p ((Q l)+1) c) (l++[x])->Kp (fun u=>u=t) o h o' h'->K (ae p ((Q l)+1) c) h'):
  OV aq T .append #[35,35] ty cb [v,ae (Z ⟨bx,0,ak⟩) 1 1] K h:=by
 have src:Sl 5 h (ae (Z ⟨bx,0,ak⟩) 1 1) 1 x.C:=⟨_,1,rfl,rfl,fun _=>⟨bx,0,rfl,fun i hi=>by
  grind [hc]⟩⟩
 refine QM (E:=43) (n:=5) (bytes:=40) (k:=1) fw bt Zkd Zbo rfl ZoA s d src (ZcU x) uh uh ?_;intro b o' h' w k _;obtain⟨p,c,rfl,_⟩:=w.ZR;refine H p c o' h' ?_ k
 grind [WU,Xd,VH]
def Zg1(i:Nat)(t:Tg):Prop:=t=.ZM i\/t=.ZD i
theorem ZcX(h:Hp)(o:Ow)(wb i nb:Nat)(a:NA)(n:Nd)(x:Cm)(d:V3 o h)(N:Yg o h wb i nb a n)(W:n.ZD.length<=1000000000000)(hl:n.ZF.length<=1000000000000):
  Zg aq T 72 #[ZC nb,Rc x] h fun v' h'=>∃o' a',Kp (Zg1 i) o h o' h'/\Yg o' h' wb i nb a' (add n x):=by
 have T4:=Zb N.Yb.2;have R:=ZU N.Yb.2 N.pt.store.len;refine Zg.X8 [_,_] Tryz.func72 ?_;unfold ZC Rc;have e1:nb≠h.size:=uh;simp only[go_sem];let⟨j,F⟩:=ZO (h.push (U (ao x.C) 43):Hp);have g:Kp WL o h o j:=by rw[F];exact YK d _
 have B:Yo o j h.size (U (ao x.C) 43):=⟨d _ (aw _),zK⟩
 rw[<-F];have f:=N.Zt g;clear F;have R1:=ZU f.Yb.2 f.pt.store.len;have K:=Zb f.Yb.2;have m:=Zb B.2;have H:rd j ⟨h.size,0,ak⟩ 5=Z x.C:=ZB B.2 rfl;refine VS.z (j.size) [13] (.p 0 (.p 1 (.p 2 (.q 3 (.q 4 (.s 5 (.p 6 (.p 7 (.p 8 (.p 9 (.p 10 (.q 11 (.q 12 (.w 13 (.p 14 (.p 15 .nil)))))))))))))))) mixed zI ?_;simp only[go_sem,R1.ZD,K,H,m];refine (RJ T j _ n.ZD x f.pt.ZD.ts uh).use ?_;rintro _ X ⟨rfl,k⟩;by_cases s:x∈n.ZD
 .have e:add n x=n:=by unfold add;rw[if_pos (.inl s)]
  simp only[go_sem,s,k,e];exact⟨o,a,(Ya g).YQ k,f.Zt (Z9 g.YG k)⟩
 simp only[go_sem,s,k,R1.ZF,K,H,m];have V:=Z9 g.YG k;refine (RJ T X _ n.ZF x (f.Zt V).pt.ZF.ts uh).use ?_;rintro _ D ⟨rfl,Y⟩;have b:Zm j.size j D:=k.trans (Y.mono k.size);have y:=Z9 g.YG b;by_cases r:x∈n.ZF
 .have e:add n x=n:=by unfold add;rw[if_pos (.inr r)]
  simp only[go_sem,r,b,e];exact⟨o,a,(Ya g).YQ b,f.Zt y⟩
 have e:add n x = { n with ZD:=n.ZD++[x] }:=by unfold add;rw[if_neg (fun q=>q.elim s r)]
 simp only[go_sem,r,b,e];have A:=f.Zt y;have G:=B.Zh y;have R3:=ZU A.Yb.2 A.pt.store.len;have Lx:=Zb A.Yb.2;have C:=Zb G.2;have M:rd D ⟨h.size,0,ak⟩ 5=Z x.C:=ZB G.2 rfl;refine VS.z (D.size) [7,10] (.p 0 (.p 1 (.p 2 (.p 3 (.q 4 (.q 5 (.s 6 (.w 7 (.p 8 (.p 9 (.w 10 .nil))))))))))) mixed zI ?_;simp only[go_sem,R3.ZD,Lx,M,C];have I:=YK y.YG (U (ao x.C) 43);have z:=A.Zt I;refine He (l:=n.ZD) z.pt.ZD I.YG Zf W ?_;intro p c P h5 L t;have E:=z.Yb.Zh t zK;have W5:=X4 E.2 z.pt.store.len;have w:=W5.ZD (ae p (n.ZD.length+1) c) rfl;simp only[go_sem,w];exact⟨P,_,(((Ya g).YQ b).push _).trans (t.mono fun u q=>.inr q) |>.set E.1 (.inl rfl) _,(z.pt.Aj t L).put t.YG E⟩
def WX(i:Nat)(t:Tg):Prop:=t=.world\/t=.ZH\/t=.ZM i\/t=.Zi i\/t=.ZF i\/t=.ZD i\/t=.e i
theorem ZcY{β:Type}:∀(l:List (Int × β)) (b:List Int),b.Nodup->(∀k∈b,(YF l k).isSome=true)->(Q b)<=(Q l):=by
 intro l
 induction l with
 | nil=>
  intro b _ h
  cases b with
  | nil=>simp
  | cons k b=>have:=h k zX;simp[YF]at this
 | cons x l c=>
  intro b d h;let⟨a,v⟩:=x;have f:(b.erase a).length<=(Q l):=c _ (d.erase a) fun k e=>by
   grind [YF.eq_def]
  grind
theorem Db{β:Type}(l:List (Int × β))(a m:Nat)(h:∀j,j<m->(YF l ((a+j:Nat):Int)).isSome=true):m<=(Q l):=by
 have:=ZcY l ((ba m).map fun j=>((a+j:Nat):Int)) ?_ ?_
 .grind
 .grind [List.nodup_range]
 grind
theorem sL(h:Hp)(cs:List am)(s:Ig cs)(x:Cm):Zg aq T 25 #[aF (ao cs),Rc x] h fun b h'=>b=.tuple #[aF (ML cs x).toArray,aF #[O J (UA cs x),O J (VR cs x)],O J (VO cs x)]/\Zm h.size h h':=by
 refine (EG T h cs x.k x.c x.s x.n x.v s.fit s.num s.yes).mono ?_
 grind [rK,ML,UA,VR,VO,doL,JA]
theorem Ig.ZcZ(h:XC J6 cs=true):Ig cs:=⟨h,EU h,Gl h⟩
theorem Ig.do(s:Ig cs)(x:Cm):Ig (ML cs x):=by
 let⟨D,a,b,c,d,_⟩:=sr s.fit x;refine Ig.ZcZ ?_;unfold doL at c
 grind [ML]
theorem Gy{T:World}{K:am->Hp->Prop}{ty:TypeId}{t:Tg}{l:List PC}{x:PC}{bx:Nat}{cb:Array Bool}(s:Xk o t 50 5 h v (Q l) (ZW NE l))(d:V3 o h)(hb:h[bx]? = Z (U (NE x).toArray 50))(hr:(Q l)<=1000000000000)(H:∀p c o' h',Xk o' t 50 5 h' (ae p ((Q l)+1) c) (l++[x]).length (ZW NE (l++[x]))->Kp (fun u=>u=t) o h o' h'->K (ae p ((Q l)+1) c) h'):
  OV aq T .append #[28,28] ty cb [v,ae (Z ⟨bx,0,ak⟩) 1 1] K h:=by
 have src:Sl 5 h (ae (Z ⟨bx,0,ak⟩) 1 1) 1 (NE x):=⟨_,1,rfl,rfl,fun _=>⟨bx,0,rfl,fun i hi=>by
  grind [hc]⟩⟩
 grind [QM,NE,Zoz,Go.Proofs.Tryz.underlying28,ZvT,ZvV,ZvU,YV,Xk.ZR,Xd,VH]
theorem Z0.sO{c:Ow}{f:Hp}{wb:Nat}{nb:Nat->Nat}{a:WA}{fl:List Yt}{YP:Nat->Int}{ZH d:List PC}(W:Z0 o h wb nb a fl YP ZH)(k:Kp (fun t=>t=.ZH) o h c f)(m:Xk c .ZH 50 5 f v (Q d) (ZW NE d)){e:Option Hp}(w:e=Z (al f wb (U (Jv YP { a with ZH:=v }).toArray 92))):
  ∃g,e=Z g/\Z0 c g wb nb { a with ZH:=v } fl YP d/\Kp (fun t=>t=.world) c f c g:=by
 have b:=W.Yb.Zh k zK;have j:Kp (fun t=>t=.world) c f c (al f wb (U (Jv YP { a with ZH:=v }).toArray 92)):=(Kp.refl k.YG (fun t=>t=.world)).set b.1 rfl _;exact⟨_,w,⟨⟨b.1,Yp b.2⟩,(W.Za.Zh k zK).Zh j zK,(W.b.Zh k zK).Zh j zK,m.Zh j zK⟩,j⟩
def sQ:Option am->Nat
 | some (ae _ l _)=>l
 | _=>0
theorem Dc(h:Hp)(o:Ow)(wb i nb:Nat)(Y6:Nat->Nat)(a:NA)(n:Nd)(XY:WA)(fl:List Yt)(YP:Nat->Int)(ZH:List PC)(s:Int)(x:Cm)(d:V3 o h)(N:Yg o h wb i nb a n)(W:Z0 o h wb Y6 XY fl YP ZH)(hk:n.Zi.length<=100000000000)(hl:n.ZF.length<=100000000000)(ht:(Q ZH)<=100000000000)(hq:n.ZD.length<=1000000000000)(hw:n.e.length<=1000000000000):
  Zg aq T 111 #[ZC wb,ZC nb,O J s,Rc x] h fun v' h'=>∃o' a' JY,Kp (WX i) o h o' h'/\Yg o' h' wb i nb a' (Jj n s x).n/\Z0 o' h' wb Y6 JY fl YP (ZH++(Jj n s x).ts):=by
 have T4:=Zb N.Yb.2;have bW:=Zb W.Yb.2;refine Zg.X8 [_,_,_,_] Tryz.func111 ?_;unfold ZC Rc;simp only[go_sem];obtain⟨h1,Jt⟩:=ZO (h.push (U (ao x.C) 43):Hp);have k1:Kp WL o h o h1:=by rw[Jt];exact YK d _
 have x1:Yo o h1 h.size (U (ao x.C) 43):=⟨d _ (aw _),by grind⟩
 rw[<-Jt];have N1:=N.Zt k1;have W1:=W.Zt k1;clear Jt;have R1:=ZU N1.Yb.2 N1.pt.store.len;have UE:=Zb N1.Yb.2;have bY:=Zb x1.2;have r1:rd h1 ⟨h.size,0,ak⟩ 5=Z x.C:=ZB x1.2 rfl;refine VS.z (h1.size) [6] (.p 0 (.p 1 (.p 2 (.q 3 (.p 4 (.q 5 (.w 6 .nil))))))) mixed (by kernel_rfl) ?_;simp only[go_sem,R1.Zi,UE,r1,bY];have km:=Qy (K:=fun _ _=>True) (x:=aF (ao x.C)) (n:=s) PD N1.pt.Zi.2 (P:=aq);rw[Qy PD N1.pt.Zi.2];have k2:Kp (fun t=>t=.Zi i) o h1 o (al h1 a.Zi (JO (ins (T6 Rc n.Zi) s (aF (ao x.C))))):=(Kp.refl k1.YG (fun t=>t=.Zi i)).set N1.pt.Zi.1 rfl _;have m2:Wx o (.Zi i) (al h1 a.Zi (JO (ins (T6 Rc n.Zi) s (aF (ao x.C))))) a.Zi (T6 Rc (ins n.Zi s x)):=
  ⟨N1.pt.Zi.1,by rw[Yp N1.pt.Zi.2,Nh];rfl⟩
 have N2:Yg o (al h1 a.Zi (JO (ins (T6 Rc n.Zi) s (aF (ao x.C))))) wb i nb a (X6 n s x):=⟨N1.Yb.Zh k2 (by grind),N1.pt.xC k2 m2⟩
 have W2:=W1.Zh k2 (by rintro t rfl;simp[Tg.of]);have K2:Kp (WX i) o h o (al h1 a.Zi (JO (ins (T6 Rc n.Zi) s (aF (ao x.C))))):=(Ya k1).trans (k2.mono fun t q=>.inr (.inr (.inr (.inl q))));generalize (al h1 a.Zi (JO (ins (T6 Rc n.Zi) s (aF (ao x.C)))))=h2 at *;clear km;unfold Jj;obtain⟨L,hL⟩:=ZO ((X6 n s x).Zi.length);have e8:L<=100000000001:=by
  rw[hL];unfold X6;simp only[Ln];split<;>omega
 obtain⟨I,jX⟩:=ZO (X6 n s x);rw[<-jX]at N2 hL ⊢;rw[<-hL];have e6:I.ZF.length<=100000000000:=by rw[jX];exact hl
 have cR:I.ZD.length<=1000000000000:=by rw[jX];exact hq
 have cO:I.e.length<=1000000000000:=by rw[jX];exact hw
 clear N1 W1 R1 UE bY r1 k2 m2 N W hk hl hq hw jX k1 x1;simp only[go_sem];refine VS.YC (fun F g=>F 0=an (Z ⟨wb,0,ak⟩)/\F 1=an (Z ⟨nb,0,ak⟩)/\∃o' a' JY m ts f j,Kp (WX i) o h o' g/\Yg o' g wb i nb a' m/\Z0 o' g wb Y6 JY fl YP (ZH++ts)/\f+j=L+1/\m.Zi=I.Zi/\m.ZF.length=I.ZF.length+j /\
   m.ZD.length<=1000000000000/\m.e.length<=1000000000000/\(Q ts)<=j/\(∀j',j'<j->(YF I.Zi ((I.ZF.length+j':Nat):Int)).isSome=true)/\(YA (L+1) I).1=(YA f m).1/\(YA (L+1) I).2=ts++(YA f m).2)
  (fun F g=>I.ZF.length+L+2-sQ (hc g ⟨nb,11,ak⟩)) rfl ⟨rfl,rfl,o,a,XY,I,[],L+1,0,K2,N2,by grind,rfl,rfl,rfl,cR,cO,aw _,fun j' h=>by omega,rfl,rfl⟩ ?_
 rintro F g ⟨f0,f1,o',a',JY,m,ts,f,j,K,M,V,hf,lL,c0,e0,cS,dT,e7,g1,g2⟩;have R:=ZU M.Yb.2 M.pt.store.len;have b8:=Zb M.Yb.2;obtain⟨lp,lc,Dd,cT⟩:=Xk.ZR M.pt.ZF;have mu:sQ (hc g ⟨nb,11,ak⟩)=m.ZF.length:=by rw[R.ZF,Dd];rfl
 rw[mu];have a2:=R.ZF;rw[Dd]at a2;have lk:=fun (K:am->Hp->Prop)=>XA (K:=K) (n:=(m.ZF.length:Int)) (c:=true) PD If M.pt.Zi.2;have RL:=fun (K:am->Hp->Prop) (x:Obj)=>XA (h:=g.push x) (K:=K) (n:=(m.ZF.length:Int)) (c:=true) PD If ((ZX (Zb M.pt.Zi.2)).trans M.pt.Zi.2);rw[JN]at lk;simp only[JN]at RL;simp only[go_sem,f0,f1]
 cases hx:YF m.Zi (m.ZF.length:Int) with
 | none=>
  rw[hx]at lk;simp only[hx,Option.map_none,Option.getD_none,Option.isSome_none,↓reduceIte]at lk RL;have e:f≠0->YA f m=(m,[]):=fun XU=>by
   grind [YA.eq_def]
  have e':YA f m=(m,[]):=by
   by_cases q:f=0
   .subst q;rfl
   .exact e q
  rw[e']at g1 g2;refine VS.mono (N:=fun F' g'=>Zm g.size g g'/\F' 9=aC false) ?_ ?_ (fun _ _ _ h=>h) (fun _ _ h=>h)
  .refine VS.z (g.size) [9,14] (.p 0 (.p 1 (.p 2 (.q 3 (.p 4 (.p 5 (.p 6 (.q 7 (.p 8 (.or 9 (.p 10 (.p 11 (.p 12 (.s 13 (.w 14 (.p 15 .nil)))))) (.s 13 (.w 9 (.p 10 (.p 11 (.p 12 (.w 14 (.p 15 .nil))))))))))))))))) mixed (by kernel_rfl) ?_;simp only[go_sem,f0,f1,R.Zi,a2,b8,lk,RL]
   repeat' (first|exact Zm.refl _ _|exact Zm.push (aw _) _|refine bw ?_ ?_)
  .rintro F' g' ⟨b,f9⟩;simp only[go_sem,f9];rw[g1,g2,a7];exact⟨o',a',JY,K.YQ b,M.Zt (Z9 K.YG b),V.Zt (Z9 K.YG b)⟩
 | some y=>
  rw[hx]at lk;simp only[hx,bg,Option.getD_some,Option.isSome_some,↓reduceIte]at lk RL;refine VS.mono (N:=fun F' g'=>Zm g.size g g'/\F' 0=an (Z ⟨wb,0,ak⟩)/\F' 1=an (Z ⟨nb,0,ak⟩)/\F' 9=aC true/\F' 8=an (Z ⟨g.size,0,ak⟩)/\g'[g.size]? = Z (U (ao y.C) 43)) ?_ ?_ (fun _ _ _ h=>h) (fun _ _ h=>h)
  .refine VS.z (g.size) [9,14] (.p 0 (.p 1 (.p 2 (.q 3 (.p 4 (.p 5 (.p 6 (.q 7 (.p 8 (.or 9 (.p 10 (.p 11 (.p 12 (.s 13 (.w 14 (.p 15 .nil)))))) (.s 13 (.w 9 (.p 10 (.p 11 (.p 12 (.w 14 (.p 15 .nil))))))))))))))))) mixed (by kernel_rfl) ?_;simp only[go_sem,f0,f1,R.Zi,a2,b8,lk,RL,Rc]
   grind
  .rintro F2 g2 ⟨b2,f20,f21,f29,f28,x2⟩;simp only[go_sem,f29];have kb:=Z9 K.YG b2;have M2:=M.Zt kb;have V2:=V.Zt kb;have dw:Yo o' g2 g.size (U (ao y.C) 43):=⟨K.YG _ (aw _),x2⟩
   have K2:=K.YQ b2;have Mm:=b8;clear R a2 lk RL b8 mu;have R2:=ZU M2.Yb.2 M2.pt.store.len;have UP:=Zb M2.Yb.2;have bT:=Zb x2;have r2:rd g2 ⟨g.size,0,ak⟩ 5=Z y.C:=ZB x2 rfl;refine VS.z (g2.size) [7,10] (.p 0 (.p 1 (.p 2 (.p 3 (.q 4 (.q 5 (.s 6 (.w 7 (.p 8 (.p 9 (.w 10 .nil))))))))))) mixed (by kernel_rfl) ?_;simp only[go_sem,f20,f21,f28,R2.ZF,UP,bT,r2];have k3:=YK K2.YG (U (ao y.C) 43);refine He (l:=m.ZF) (M2.Zt k3).pt.ZF k3.YG Zf (by omega) ?_;intro p c o3 g3 w3 cN;have a1:Kp (fun t=>t=.ZF i) o' g2 o3 g3:=(Ya k3).trans cN;have b3:=M2.Yb.Zh a1 (by grind);have w:=(X4 b3.2 M2.pt.store.len).ZF (ae p (m.ZF.length+1) c) rfl;simp only[go_sem,w];have M4:=(M2.pt.ZgY a1 w3).put a1.YG b3;have kn:Kp (fun t=>t=.ZM i) o3 g3 o3 (al g3 nb (Jl { m with ZF:=m.ZF++[y] } { a' with ZF:=ae p (m.ZF.length+1) c })):=(Kp.refl a1.YG (fun t=>t=.ZM i)).set b3.1 rfl _;have V4:=(V2.Zh a1 (by rintro t rfl;simp[Tg.of])).Zh kn (by rintro t rfl;simp[Tg.of]);have x4:=(dw.Zh a1).Zh kn;have K4:Kp (WX i) o h o3 (al g3 nb (Jl { m with ZF:=m.ZF++[y] } { a' with ZF:=ae p (m.ZF.length+1) c })):=
    (K2.trans (a1.mono fun t q=>.inr (.inr (.inr (.inr (.inl q)))))).trans (kn.mono fun t q=>.inr (.inr (.inl q)))
   obtain⟨u,Hf⟩:=ZO (al g3 nb (Jl m { a' with ZF:=ae p (m.ZF.length+1) c }));rw[show Jl { m with ZF:=m.ZF++[y] } { a' with ZF:=ae p (m.ZF.length+1) c } = Jl m { a' with ZF:=ae p (m.ZF.length+1) c } from rfl,<-Hf]at M4 V4 x4 K4;rw[<-Hf];clear Hf kn;have R4:=ZU M4.Yb.2 M4.pt.store.len;have Fl:=Zb M4.Yb.2;have bS:=Zb x4.2;have r4:rd u ⟨g.size,0,ak⟩ 5=Z y.C:=ZB x4.2 rfl;have call:=fun G=>sL T G m.store M4.pt.store y;have c9:rd u ⟨nb,12,ak⟩ 40=Z m.store:=R4.store;have hD:=(M4.pt.store.do y)
   have dj:ML ({ m with ZF:=m.ZF++[y] }:Nd).store y=ML m.store y:=rfl;rw[dj]at hD;obtain⟨D,b6⟩:=ZO (ML m.store y);obtain⟨E,hE⟩:=ZO (VO m.store y);obtain⟨c1,TZ⟩:=ZO (UA m.store y);obtain⟨c2,ax⟩:=ZO (VR m.store y);rw[<-b6]at hD;rw[<-b6,<-hE,<-TZ,<-ax]at call;have Gz:=hD.len;have nO:=hD.one;unfold Rc at call;have Cj:=Yf (zs:=XE) (vs:=D) (by rw[Gz];rfl);unfold XE at Cj;simp only[rep,List.cons_append,bd]at Cj;have wA:∀(G:Hp) (k:Nat),G[k]? = Z (U (ao XE) 57)->wr G ⟨k,0,ak⟩ D=Z (al G k (U (ao D) 57)):=fun G k hx=>by
    rw[Yr hx 0 D,Yf (by rw[Gz];rfl),if_pos ⟨by rw[Gz];simp[XE,rep],nO⟩]
   have wB:∀(G:Hp) (k:Nat),G[k]? = Z (U [O J 0,O J 0].toArray 48)->wr G ⟨k,0,ak⟩ [O J c1,O J c2]=Z (al G k (U [O J c1,O J c2].toArray 48)):=fun G k hx=>by
    rw[Yr hx 0 _];rfl
   have gl:∀(G:Hp) (X Y:Obj),((G.push X).push Y)[G.size]? = Z X:=fun G X Y=>by grind
   have gs:∀(G:Hp) (k:Nat) (X Y:Obj),((al G k X).push Y)[G.size]? = Z Y:=fun G k X Y=>by
    grind
   have dm:=gs;have gr:∀(G:Hp) (X Y:Obj),((G.push X).push Y)[G.size+1]? = Z Y:=fun G X Y=>by
    grind
   refine VS.mono (N:=fun F' g'=>Zm u.size u g'/\F' 0=an (Z ⟨wb,0,ak⟩)/\F' 1=an (Z ⟨nb,0,ak⟩)/\F' 8=an (Z ⟨g.size,0,ak⟩)/\∃A B,F' 10=an (Z ⟨A,0,ak⟩)/\F' 11=an (Z ⟨B,0,ak⟩)/\u.size<=A/\u.size<=B/\g'[A]? = Z (U (ao D) 57)/\g'[B]? = Z (U [O J c1,O J c2].toArray 48)) ?_ ?_ (fun _ _ _ h=>h) (fun _ _ h=>h)
   .refine VS.z (u.size) [5,12,13] (.p 0 (.p 1 (.p 2 (.q 3 (.q 4 (.or 5 (.p 6 (.p 7 (.p 8 (.p 9 (.or 10 (.s 11 (.w 12 (.w 13 (.p 14 .nil)))) (.s 11 (.s 10 (.w 12 (.w 13 (.p 14 .nil)))))))))) (.or 10 (.or 5 (.p 6 (.p 7 (.p 8 (.p 9 (.s 11 (.w 12 (.w 13 (.p 14 .nil)))))))) (.s 11 (.w 5 (.p 6 (.p 7 (.p 8 (.p 9 (.w 12 (.w 13 (.p 14 .nil)))))))))) (.s 11 (.or 5 (.p 6 (.p 7 (.p 8 (.p 9 (.s 10 (.w 12 (.w 13 (.p 14 .nil)))))))) (.s 10 (.w 5 (.p 6 (.p 7 (.p 8 (.p 9 (.w 12 (.w 13 (.p 14 .nil)))))))))))))))))) mixed (by kernel_rfl) ?_;simp only[go_sem,f20,f21,f28,c9,Fl,bS,r4]
    repeat' (first|with_reducible exact Zm.refl _ _|with_reducible exact Zm.push (by omega) _|with_reducible refine bw ?_ ?_)
    all_goals first
     | (refine (call u).use ?_
        rintro _ g5 ⟨rfl,C⟩;have s5:=C.size;simp only[go_sem,C,Gz,nO,Cj];refine⟨⟨f20,f21,f28,_,_,rfl,rfl,s5,by omega,gl _ _ _,gr _ _ _⟩,⟨f20,f21,f28,_,_,rfl,rfl,by omega,s5,gr _ _ _,gl _ _ _⟩⟩)
     | (refine (call (u.push (U _ 57))).use ?_
        rintro _ g5 ⟨rfl,C⟩;have s5:=C.size;rw[aI]at s5;have B5:Zm u.size u g5:=(Zm.push (aw _) _).trans (C.mono (by simp));have xA:=C.get (k:=u.size) (by simp) Zf;have OL:=wA _ _ xA;have zA:=Zb xA;have gA:=Yp (o:=U (ao D) 57) xA;simp only[go_sem,B5,Gz,nO,OL,zA];exact⟨f20,f21,f28,_,_,rfl,rfl,aw _,by omega,by rw[ZX (by simpa using zA)];exact gA,gs _ _ _ _⟩)
     | (refine (call (u.push (U _ 48))).use ?_
        rintro _ g5 ⟨rfl,C⟩;have s5:=C.size;rw[aI]at s5;have B5:Zm u.size u g5:=(Zm.push (aw _) _).trans (C.mono (by simp));have xB:=C.get (k:=u.size) (by simp) Zf;have De:=wB _ _ xB;have zB:=Zb xB;have gB:=Yp (o:=U [O J c1,O J c2].toArray 48) xB;simp only[go_sem,B5,Gz,nO,De,Cj,zB];exact⟨f20,f21,f28,_,_,rfl,rfl,by omega,aw _,dm _ _ _ _,by rw[ZX (by simpa using zB)];exact gB⟩)
     | (refine (call ((u.push (U _ 57)).push (U _ 48))).use ?_
        rintro _ g5 ⟨rfl,C⟩;have s5:=C.size;rw[aI,aI]at s5;have B5:Zm u.size u g5:=((Zm.push (aw _) _).Xj (by simp) _).trans (C.mono (by simp;omega));have xA:=C.get (k:=u.size) (by simp;omega) (gl _ _ _);have xB:=C.get (k:=u.size+1) (by simp) (gr _ _ _);have OL:=wA _ _ xA;have zA:=Zb xA;have Hg:=(Xt (o:=U (ao D) 57) (show u.size≠u.size+1 by omega)).trans xB;have De:=wB _ _ Hg;have zB:=Zb Hg;simp only[go_sem,B5,Gz,nO,OL,zA,De,zB];exact⟨f20,f21,f28,_,_,rfl,rfl,by omega,by omega,(Xt (by omega)).trans (Yp xA),Yp Hg⟩)
     | (refine (call ((u.push (U _ 48)).push (U _ 57))).use ?_
        rintro _ g5 ⟨rfl,C⟩;have s5:=C.size;rw[aI,aI]at s5;have B5:Zm u.size u g5:=((Zm.push (aw _) _).Xj (by simp) _).trans (C.mono (by simp;omega));have xB:=C.get (k:=u.size) (by simp;omega) (gl _ _ _);have xA:=C.get (k:=u.size+1) (by simp) (gr _ _ _);have OL:=wA _ _ xA;have zA:=Zb xA;have Hg:=(Xt (o:=U (ao D) 57) (show u.size+1≠u.size by omega)).trans xB;have De:=wB _ _ Hg;have zB:=Zb Hg;simp only[go_sem,B5,Gz,nO,OL,zA,De,zB];exact⟨f20,f21,f28,_,_,rfl,rfl,by omega,by omega,(Xt (by omega)).trans (Yp xA),Yp Hg⟩)
   .rintro F5 g5 ⟨C,f50,f51,f58,A,B,dq,c4,hA,hB,yA,yB⟩;have Ap:=Z9 K4.YG C;have M5:=M4.Zt Ap;have V5:=V4.Zt Ap;have x5:=x4.Zh Ap;have K5:=K4.YQ C;have z5:=Zb M5.Yb.2;have rA:rd g5 ⟨A,0,ak⟩ 40=Z D:=ZB yA Gz;obtain⟨g6,w6,M6,k6⟩:=Yx.write (n:={ m with ZF:=m.ZF++[y],store:=D }) { M5.pt with store:=hD } K5.YG M5.Yb ((X4 M5.Yb.2 M5.pt.store.len).store D Gz nO);have V6:=V5.Zh k6 (by rintro t rfl;simp[Tg.of]);have x6:=x5.Zh k6;have K6:Kp (WX i) o h o3 g6:=K5.trans (k6.mono fun t q=>.inr (.inr (.inl q)));have cr:=(show Yo o3 g5 B _ from⟨K4.YG _ (by omega),yB⟩).Zh k6;have R6:=ZU M6.Yb.2 Gz;have z6:=Zb M6.Yb.2;clear R4 c9 Fl bS r4 R2 UP bT r2;simp only[go_sem,f50,f51,f58,dq,c4,rA,w6,Gz,R6.ZD,z5];refine (iz T g6 o3 (.ZD i) _ m.ZD g.size y M6.pt.ZD K6.YG x6 (by omega)).use ?_;rintro v7 g7 ⟨q7,k7⟩;obtain⟨p7,c7,rfl,_⟩:=Xk.ZR q7;have b7:=M6.Yb.Zh k7 (by grind);obtain⟨g8,w8,M8,k8⟩:=(M6.pt.Aj k7 q7).write k7.YG b7 ((X4 b7.2 Gz).ZD (ae p7 _ c7) rfl);have z7:=Zb b7.2;have V8:=(V6.Zh k7 (by rintro t rfl;simp[Tg.of])).Zh k8 (by rintro t rfl;simp[Tg.of]);have x8:=(x6.Zh k7).Zh k8;have cq:=(cr.Zh k7).Zh k8;have K8:Kp (WX i) o h o3 g8:=(K6.trans (k7.mono fun t q=>.inr (.inr (.inr (.inr (.inr (.inl q))))))).trans (k8.mono fun t q=>.inr (.inr (.inl q)));have R8:=ZU M8.Yb.2 Gz;have z8:=Zb M8.Yb.2;simp only[go_sem,f50,f51,f58,w8,z7,R8.e];refine (E9 T g8 _ m.e g.size y M8.pt.e.ts x8.2 (by omega)).use ?_;rintro _ g9 ⟨rfl,b9⟩;have b0:=Z9 K8.YG b9;have M9:=M8.Zt b0;have V9:=V8.Zt b0;have x9:=x8.Zh b0;have cn:=cq.Zh b0;have K9:=K8.YQ b9;have OK:∃f',f=f'+1:=⟨f-1,by
     have:f≠0:=fun q=>by
      subst q;have hj:j=L+1:=by omega
      have:=Db I.Zi I.ZF.length (L+2) fun j' de=>by
       grind
      grind
     omega⟩
    obtain⟨f',rfl⟩:=OK;have lg:YA (f'+1) m=((YA f' (XF m y)).1,Si m y++(YA f' (XF m y)).2):=by
     rw[YA,hx]
    rw[lg]at g1 g2;have c8:∀j',j'<j+1->(YF I.Zi ((I.ZF.length+j':Nat):Int)).isSome=true:=fun j' de=>by
     grind
    have wU:(m.ZD.filter fun z=>decide (z≠y)).length<=m.ZD.length:=List.length_filter_le _ _;have mono:∀(G:Hp) (nn:Nd) (aa:NA) (oo:Ow),Yg oo G wb i nb aa nn->nn.ZF.length=m.ZF.length+1->I.ZF.length+L+2-sQ (hc G ⟨nb,11,ak⟩)<I.ZF.length+L+2-m.ZF.length:=fun G nn aa oo H hh=>by
     have RR:=ZU H.Yb.2 H.pt.store.len;obtain⟨lp,lc,Dd,cT⟩:=Xk.ZR H.pt.ZF
     grind [sQ,ZcS.ZF]
    by_cases hy:y∈m.e
    case neg=>
     have e1:PH m.e y = -1:=by unfold PH;rw[if_neg hy]
     have e2:Si m y=[]:=by unfold Si;rw[if_neg hy]
     have e3:m.e.erase y=m.e:=List.erase_of_not_mem hy;rw[e2]at g2;have e4:XF m y = { m with ZF:=m.ZF++[y],store:=D,ZD:=m.ZD.filter (fun z=>decide (z≠y)) }:=by unfold XF;rw[e3,<-b6]
     rw[e4]at g1 g2;rw[bd]at g2;simp only[go_sem,e1];unfold Xz;refine⟨⟨f50,f51,o3,_,JY,_,ts,f',j+1,K9,M9,V9,by omega,lL,by simp[c0];omega,by grind,cS,by omega,c8,g1,g2⟩,mono _ _ _ _ M9 (by simp)⟩
    have e1:0<=PH m.e y:=(Ii _ _).2 hy;have e5:PH m.e y=(m.e.idxOf y:Nat):=by unfold PH;rw[if_pos hy]
    obtain⟨r,hr⟩:=ZO (m.e.idxOf y);have cP:r<m.e.length:=by rw[hr];exact a3 hy
    rw[<-hr]at e5;have e2:Si m y=[⟨m.me,y.c,y.s,UA m.store y,VR m.store y⟩]:=by unfold Si;rw[if_pos hy]
    have e3:m.e.erase y=m.e.take r++m.e.drop (r+1):=by
     rw[List.erase_eq_eraseIdx_of_idxOf,List.eraseIdx_eq_take_drop_succ];exact hr.symm
    rw[e2]at g2;have R9:=ZU M9.Yb.2 Gz;have z9:=Zb M9.Yb.2;simp only[go_sem,e1,e5,f50,f51,f58,R9.e,z9];refine (iw T g9 o3 (.e i) _ m.e.length r _ M9.pt.e K9.YG (Zg0 _) cP (by omega)).use ?_;rintro v10 dp ⟨cz,xE⟩;have wl:(m.e.erase y).length=m.e.length-1:=by rw[e3,aS,aX,aV];omega
    have ca:WU o3 (.e i) dp v10 (m.e.erase y):=by
     unfold WU;rw[wl,e3,Xd,<-Ms Ih _ _ (by omega),<-PI Ih _ _ (by omega)];exact cz
    obtain⟨cB,dv,rfl,_⟩:=Xk.ZR ca;have bp:=M9.Yb.Zh xE (by grind);obtain⟨aW,cu,bN,zO⟩:=(M9.pt.Gu xE ca).write xE.YG bp ((X4 bp.2 Gz).e (ae cB _ dv) rfl);have ck:=Zb bp.2;have bK:=(V9.Zh xE (by rintro t rfl;simp[Tg.of])).Zh zO (by rintro t rfl;simp[Tg.of]);have bb:=(x9.Zh xE).Zh zO;have c6:=(cn.Zh xE).Zh zO;have cd:Kp (WX i) o h o3 aW:=(K9.trans (xE.mono fun t q=>.inr (.inr (.inr (.inr (.inr (.inr q))))))).trans (zO.mono fun t q=>.inr (.inr (.inl q)));have a2:=ZU bN.Yb.2 Gz;have cg:=Zb bN.Yb.2;have dJ:=Je bK.Yb.2;have dA:=Zb bK.Yb.2;have cw:hc aW ⟨g.size,1,ak⟩=Z (O J y.c):=Zr bb.2;have cv:hc aW ⟨g.size,2,ak⟩=Z (O J y.s):=Zr bb.2;have rB:rd aW ⟨B,0,ak⟩ 2=Z [O J c1,O J c2]:=ZB c6.2 rfl;have dz:=Zb bb.2;have dx:=Zb c6.2;simp only[go_sem,cu,ck];refine VS.z (aW.size) [17,21] (.p 0 (.p 1 (.p 2 (.p 3 (.p 4 (.q 5 (.p 6 (.p 7 (.p 8 (.q 9 (.p 10 (.q 11 (.p 12 (.q 13 (.q 14 (.p 15 (.s 16 (.w 17 (.p 18 (.p 19 (.p 20 (.w 21 .nil)))))))))))))))))))))) mixed (by kernel_rfl) ?_;simp only[go_sem,f50,f51,f58,c4,dJ.ZH,a2.me,cw,cv,rB,cg,dA,dz,dx];have b4:=YK cd.YG (U (NE ⟨m.me,y.c,y.s,c1,c2⟩).toArray 50);have bG:=bK.Zt b4;refine Gy (l:=ZH++ts) (x:=⟨m.me,y.c,y.s,c1,c2⟩) bG.ZH b4.YG Zf (by grind) ?_;intro cA ds bl e9 cx b1;have c5:=bG.Yb.Zh b1 (by grind);obtain⟨c3,ct,dE,bR⟩:=bG.sO b1 cx ((Je c5.2).Zje (ae cA _ ds) rfl);have cf:=Zb c5.2;simp only[go_sem,ct,cf];have cc:=((bN.Zt b4).Zh b1 (by rintro t rfl;simp[Tg.of])).Zh bR (by rintro t rfl;simp[Tg.of]);have dP:Kp (WX i) o h bl c3:=(((cd.trans (Ya b4)).trans (b1.mono fun t q=>.inr (.inl q))).trans (bR.mono fun t q=>.inl q))
    have e4:XF m y = { m with ZF:=m.ZF++[y],store:=D,ZD:=m.ZD.filter (fun z=>decide (z≠y)),e:=m.e.erase y }:=by unfold XF;rw[<-b6]
    rw[e4]at g1 g2;rw[<-TZ,<-ax]at g2;obtain⟨ea,dB⟩:∃A,Z0 bl c3 wb Y6 A fl YP (ZH++(ts++[⟨m.me,y.c,y.s,c1,c2⟩])):=⟨_,by rw[<-aL];exact dE⟩
    rw[<-aL]at g2;unfold Xz;refine⟨⟨f50,f51,bl,_,_,_,ts++[⟨m.me,y.c,y.s,c1,c2⟩],f',j+1,dP,cc,dB,by omega,lL,by simp[c0];omega,by grind,by grind,by simp;omega,c8,g1,g2⟩,mono _ _ _ _ cc (by simp)⟩
def Zqk(o:Ow)(h:Hp)(wb:Nat)(Y6:Nat->Nat)(fl:List Yt)(YP:Nat->Int)(ZH:List PC)(h':Hp):Prop:=
 ∃o' b,Kp sJ o h o' h'/\Z0 o' h' wb Y6 b fl YP ZH
theorem sR(h:Hp)(o:Ow)(wb nb:Nat)(Y6:Nat->Nat)(me:Nat)(XY:WA)(fl:List Yt)(YP:Nat->Int)(ZH:List PC)(f e b c:Nat)(l:Yt)(q w:am)(vs:List Vt)(d:V3 o h)(W:Z0 o h wb Y6 XY fl YP ZH)(E:hc h ⟨nb,0,ak⟩=Z (O J me))(C:nb<h.size)(A:(Q fl)<=1000000000000)(p:Yo o h f (U [ZC wb].toArray 86))(m:Yo o h e (U [ZC nb].toArray 93))(g:Yo o h b (U (Jk l q).toArray 143))(j:Yo o h c (U [w].toArray 98))(iv:Ta o h w vs):
  Zg aq T 107 #[ZC f,ZC e,ZC b,ZC c] h fun r h'=>Zqk o h wb Y6 (fl++[⟨1,me,l.c,l.b,Ps,vs⟩]) YP ZH h':=by
 obtain⟨pw,z,rfl⟩:=iv.ZR;refine Zg.X8 [_,_,_,_] Tryz.func107 ?_;unfold ZC;have y:hc h ⟨f,0,ak⟩=Z (ZC wb):=Zr p.2;have x:hc h ⟨e,0,ak⟩=Z (ZC nb):=Zr m.2;have u:hc h ⟨b,1,ak⟩=Z (O J l.c):=Zr g.2;have t:rd h ⟨b,3,ak⟩ 2=Z [O J l.b.r,O J l.b.n]:=by rw[YZ g.2 (by simp[Jk])];rfl
 have s:hc h ⟨c,0,ak⟩=Z (ae pw (Q vs) z):=Zr j.2;simp only[go_sem,y,x,u,t,s];refine (TB T h o wb nb Y6 me XY fl YP ZH l.c ⟨1,0,0,l.b,Ps,vs⟩ _ d W E C iv A).use ?_;rintro r h' ⟨o',D,k,_,B⟩;simp only[go_sem];exact⟨o',D,k,B⟩
theorem sU(h:Hp)(o:Ow)(wb nb:Nat)(Y6:Nat->Nat)(me:Nat)(XY:WA)(fl:List Yt)(YP:Nat->Int)(ZH:List PC)(e c b:Nat)(l:Yt)(p:am)(d:V3 o h)(W:Z0 o h wb Y6 XY fl YP ZH)(z:hc h ⟨nb,0,ak⟩=Z (O J me))(x:nb<h.size)(u:(Q fl)<=1000000000000)(m:Yo o h e (U [ZC wb].toArray 86))(j:Yo o h c (U [ZC nb].toArray 93))(f:Yo o h b (U (Jk l p).toArray 143)):
  Zg aq T 112 #[ZC e,ZC c,ZC b] h fun q h'=>Zqk o h wb Y6 (fl++[⟨3,me,l.c,Y2,l.v,[]⟩]) YP ZH h':=by
 refine Zg.X8 [_,_,_] Tryz.func112 ?_;unfold ZC;have t:hc h ⟨e,0,ak⟩=Z (ZC wb):=Zr m.2;have s:hc h ⟨c,0,ak⟩=Z (ZC nb):=Zr j.2;have r:hc h ⟨b,1,ak⟩=Z (O J l.c):=Zr f.2;have g:rd h ⟨b,5,ak⟩ 8=Z (Zz l.v):=by rw[YZ f.2 (by simp[Jk])];rfl
 unfold Zz at g;simp only[go_sem,t,s,r,g];refine (TB T h o wb nb Y6 me XY fl YP ZH l.c ⟨3,0,0,Y2,l.v,[]⟩ (ae ak 0 0) d W z x (Im.nil _ _ _ _) u).use ?_;rintro q h' ⟨o',y,k,_,w⟩;simp only[go_sem];exact⟨o',y,k,w⟩
def Zg4(i:Nat)(t:Tg):Prop:=t=.world\/t=.b\/t=.ZM i\/t=.c i\/t=.XM i
theorem Zg5(h:Hp)(o:Ow)(wb i nb:Nat)(Y6:Nat->Nat)(XY:WA)(fl:List Yt)(YP:Nat->Int)(ZH:List PC)(a:NA)(n:Nd)(acc:QT)(to:Int)(b:ZN)(vs:List Vt)(s x r:Nat)(u:am)(d:V3 o h)(N:Yg o h wb i nb a n)(W:Z0 o h wb Y6 XY fl YP ZH)(Xq:(Q fl)<=1000000000000)(M:Ot o h s acc)(P:Yo o h x (U [ZC nb].toArray 93))(L:Yo o h r (U [u].toArray 1))(Y:ZcP o h wb nb u to b vs):
  Zg aq T 109 #[ZC s,ZC x,ZC r] h fun V h'=>∃o' a' y,Kp (Zg4 i) o h o' h'/\Yg o' h' wb i nb a' { n with Zn:=acc }/\Z0 o' h' wb Y6 y (fl++[⟨1,n.me,to,b,Ps,vs⟩]) YP ZH:=by
 let⟨wa,K,B⟩:=M;obtain⟨m,p,rfl⟩:=B.ZR;obtain⟨E,A,D,C,l,R,w,rfl,I,H,G,rfl,rfl,F,iv⟩:=Y;have T4:=Zb N.Yb.2;refine Zg.X8 [_,_,_] Tryz.func109 ?_;unfold ZC;have z:hc h ⟨x,0,ak⟩=Z (ZC nb):=Zr P.2;have X:rd h ⟨s,0,ak⟩ 3=Z [O J acc.p.r,O J acc.p.n,ae m (Q acc.l) p]:=ZB K.2 rfl;let⟨g1,w1,g,e⟩:=Yx.write (a:={ a with c:=ae m (Q acc.l) p }) (n:={ n with Zn:=acc }) { N.pt with c:=B } d N.Yb ((X4 N.Yb.2 N.pt.store.len).Zn acc.p.r acc.p.n (ae m (Q acc.l) p) rfl);have W1:=W.Zh e HS;have j:=L.Zh e;have f:hc g1 ⟨r,0,ak⟩=Z (SD 107 [E,A,D,C]):=Zr j.2;unfold SD at f;simp only[a9]at f;unfold ZC at z f;simp only[go_sem,z,X,w1,T4,f];have R1:=ZU g.Yb.2 g.pt.store.len;refine (sR T g1 o wb nb Y6 n.me XY fl YP ZH E A D C l R w vs e.YG W1 R1.me (Zb g.Yb.2) Xq (I.Zh e) (H.Zh e) (G.Zh e) (F.Zh e) (iv.Zh e)).use ?_;rintro V h' ⟨o',y,k,W'⟩;simp only[go_sem];exact⟨o',_,y,(e.mono fun t q=>.inr (.inr (.inl q))).trans (k.mono fun t q=>q.elim .inl fun q=>.inr (.inl q)),g.Zh k aab,W'⟩
theorem Zg6(h:Hp)(o:Ow)(wb i nb:Nat)(Y6:Nat->Nat)(XY:WA)(fl:List Yt)(YP:Nat->Int)(ZH:List PC)(a:NA)(n:Nd)(acc:QT)(to:Int)(x:Vt)(r s p:Nat)(u:am)(d:V3 o h)(N:Yg o h wb i nb a n)(W:Z0 o h wb Y6 XY fl YP ZH)(X:(Q fl)<=1000000000000)(I:Ot o h r acc)(K:Yo o h s (U [ZC nb].toArray 93))(H:Yo o h p (U [u].toArray 1))(R:ZcQ o h wb nb u to x):
  Zg aq T 115 #[ZC r,ZC s,ZC p] h fun M h'=>∃o' V w,Kp (Zg4 i) o h o' h'/\Yg o' h' wb i nb V { n with Zn:=acc }/\Z0 o' h' wb Y6 w (fl++[⟨3,n.me,to,Y2,x,[]⟩]) YP ZH:=by
 let⟨wa,G,A⟩:=I;obtain⟨j,m,rfl⟩:=A.ZR;obtain⟨C,z,B,l,L,rfl,F,E,D,rfl,rfl⟩:=R;have T4:=Zb N.Yb.2;refine Zg.X8 [_,_,_] Tryz.func115 ?_;unfold ZC;have y:hc h ⟨s,0,ak⟩=Z (ZC nb):=Zr K.2;have P:rd h ⟨r,0,ak⟩ 3=Z [O J acc.p.r,O J acc.p.n,ae j (Q acc.l) m]:=ZB G.2 rfl;let⟨g1,w1,f,b⟩:=Yx.write (a:={ a with c:=ae j (Q acc.l) m }) (n:={ n with Zn:=acc }) { N.pt with c:=A } d N.Yb ((X4 N.Yb.2 N.pt.store.len).Zn acc.p.r acc.p.n (ae j (Q acc.l) m) rfl);have Y:=W.Zh b HS;have g:=H.Zh b;have e:hc g1 ⟨p,0,ak⟩=Z (SD 112 [C,z,B]):=Zr g.2;unfold SD at e;simp only[a9]at e;unfold ZC at y e;simp only[go_sem,y,P,w1,T4,e];have R1:=ZU f.Yb.2 f.pt.store.len;refine (sU T g1 o wb nb Y6 n.me XY fl YP ZH C z B l L b.YG Y R1.me (Zb f.Yb.2) X (F.Zh b) (E.Zh b) (D.Zh b)).use ?_;rintro M h' ⟨o',w,k,W'⟩;simp only[go_sem];exact⟨o',_,w,(b.mono fun t q=>.inr (.inr (.inl q))).trans (k.mono fun t q=>q.elim .inl fun q=>.inr (.inl q)),f.Zh k aab,W'⟩
theorem Vq.ins{k:Int}{w:am}{vs:List Vt}(iv:Ta o h w vs):∀{pv:List (Int × am)} {pr:List (Int × List Vt)},Vq o h pv pr->Vq o h (Go.V.ins pv k w) (Go.V.ins pr k vs):=by
 intro pv pr s
 induction s with
 | nil=>exact .cons ⟨rfl,iv⟩ .nil
 | @cons a b l m j _ d=>
  let⟨c,g⟩:=a;let⟨p,f⟩:=b;obtain⟨rfl,e⟩:=j;show fu _ (if c=k then (c,w) :: l else (c,g) :: Go.V.ins l k w) (if c=k then (c,vs) :: m else (c,f) :: Go.V.ins m k vs);by_cases q:c=k
  .rw[if_pos q,if_pos q];exact .cons ⟨rfl,iv⟩ aad
  .rw[if_neg q,if_neg q];exact .cons ⟨rfl,e⟩ d
theorem Vq.length{pv:List (Int × am)}{pr:List (Int × List Vt)}(s:Vq o h pv pr):(Q pv)=(Q pr):=by
 induction s with
 | nil=>rfl
 | cons _ _ b=>simp[b]
theorem Vq.YF{pv:List (Int × am)}{pr:List (Int × List Vt)}(s:Vq o h pv pr)(k:Int):(Go.V.YF pv k=ak/\Go.V.YF pr k=ak)\/∃w vs,Go.V.YF pv k=Z w/\Go.V.YF pr k=Z vs/\Ta o h w vs:=by
 induction s with
 | nil=>exact .inl ⟨rfl,rfl⟩
 | @cons a b l m d _ c=>
  grind [YF.eq_def]
theorem X1.sV{i:Nat}{b:RA}{r:XR}(s:X1 o i h b r)(d:V3 o h){k:Int}{w:am}{vs:List Vt}(iv:Ta o h w vs):
  Kp (fun t=>t=.c i) o h o (al h b.pb (JO (ins b.pv k w)))/\X1 o i (al h b.pb (JO (ins b.pv k w))) { b with pv:=ins b.pv k w } { r with c:=ins r.c k vs }:=by
 have f:Kp (fun t=>t=.c i) o h o (al h b.pb (JO (ins b.pv k w))):=(Kp.refl d (fun t=>t=.c i)).set s.c.1 rfl _;exact⟨f,s.Yb.Zh f zK,⟨s.c.1,Yp s.c.2⟩,Vq.Zh (Vq.ins iv s.PG) f,s.ZQ.Zh f zK,s.Xc.Zh f zK,s.f.Zh f (fun _ e=>by cases e),s.keys⟩
theorem Yx.xF{wb i nb:Nat}{a:NA}{n:Nd}(s:Yx o h wb i nb a n)(k:Kp (fun t=>t=.XM i) o h o' h')(c:n.Zo=ak):Yx o' h' wb i nb a n:=
 ⟨s.data.Zh k,s.c.Zh k,s.Zc.Zh k (fun t b=>by rcases b with rfl|rfl|rfl|rfl|⟨z,rfl⟩<;>intro e<;>cases e),s.Zi.Zh k zK,s.ZF.Zh k zK,s.ZD.Zh k zK,s.e.Zh k zK,s.Zd.Zh k zK,by
  have:=s.Zo;rw[c]at this ⊢;exact this,s.store⟩
theorem GA{n:Nd}{a:NA}{b ra':RA}(r:Option XR)(h:a.Zc=Z b)(hb:ra'.rb=b.rb):Jl { n with Zc:=r } { a with Zc:=Z ra' } = Jl n a:=by
 unfold Jl Tj;simp only[h,Lw,hb]
def ZzD(i:Nat)(t:Tg):Prop:=t=.ZM i\/t=.c i\/t=.XM i
theorem Zg7(h:Hp)(o:Ow)(wb i nb:Nat)(a:NA)(n:Nd)(acc:QT)(vs:List Vt)(cur:Bool)(v:am)(d:V3 o h)(N:Yg o h wb i nb a n)(hp:n.Zo=ak)(hv:Zqc o h i nb a.Zc v acc vs cur):
  ∃y m x z,v=SD 116 [y,m,x,z]/\Zg aq T 116 #[ZC y,ZC m,ZC x,ZC z] h fun v' h'=>∃o' a',Kp (ZzD i) o h o' h'/\Yg o' h' wb i nb a' { n with Zn:=acc,Zc:=if cur=true then n.Zc.map (fun r=>{ r with c:=ins r.c n.me vs }) else n.Zc }:=by
 obtain⟨y,m,x,z,w,rb,rfl,⟨wa,xa,Y⟩,M,x7,iv,x5,A⟩:=hv;obtain⟨p,u,rfl⟩:=Y.ZR;obtain⟨pw,B,rfl⟩:=iv.ZR;refine⟨y,m,x,z,rfl,?_⟩;have T4:=Zb N.Yb.2;refine Zg.X8 [_,_,_,_] Tryz.func116 ?_;unfold ZC;have P:hc h ⟨m,0,ak⟩=Z (ZC nb):=Zr M.2;have r6:rd h ⟨y,0,ak⟩ 3=Z [O J acc.p.r,O J acc.p.n,ae p (Q acc.l) u]:=ZB xa.2 rfl;let⟨g1,w1,g,b⟩:=Yx.write (a:={ a with c:=ae p (Q acc.l) u }) (n:={ n with Zn:=acc }) { N.pt with c:=Y } d N.Yb ((X4 N.Yb.2 N.pt.store.len).Zn acc.p.r acc.p.n (ae p (Q acc.l) u) rfl);unfold ZC at P;simp only[go_sem,P,r6,w1,T4];have L:=M.Zh b;have K:=x5.Zh b;have I:=x7.Zh b;have E:hc g1 ⟨m,0,ak⟩=Z (ZC nb):=Zr L.2;have D:hc g1 ⟨z,0,ak⟩=Z (ZC rb):=Zr K.2;have R:hc g1 ⟨x,0,ak⟩=Z (ae pw (Q vs) B):=Zr I.2;unfold ZC at E D;have X:=Zb L.2;have W:=Zb K.2;have V:=Zb I.2;have R1:=ZU g.Yb.2 g.pt.store.len;have s:=Zb g.Yb.2;have H:=iv.Zh b;refine VS.z (g1.size) [9] (.q 0 (.p 1 (.p 2 (.q 3 (.q 4 (.p 5 (.p 6 (.q 7 (.q 8 (.w 9 .nil)))))))))) mixed zI ?_
 cases cur with
 | true=>
  obtain⟨e,Hh,rfl⟩:=A;have f:=g.pt.Zc;have C:({ a with c:=ae p (Q acc.l) u }:NA).Zc=Z e:=Hh;rw[C]at f
  cases hr:n.Zc with
  | none=>grind [ZcO]
  | some r=>
   rw[show ({ n with Zn:=acc }:Nd).Zc=Z r from hr]at f;have f:X1 o i g1 e r:=f;have rr:hc g1 ⟨e.rb,2,ak⟩=Z (.map (Z e.pb)):=Zr f.Yb.2;have G:=Zb f.Yb.2;simp only[go_sem,E,D,R,X,W,V,s,R1.me,rr,G];rw[Qy Gq f.c.2];simp only[go_sem];let⟨j,R2⟩:=f.sV b.YG (k:=n.me) H;have F:Kp (Ql i) o g1 o _:=j.mono fun t q=>.inr (.inl q);refine⟨o,{ ({ a with c:=ae p (Q acc.l) u }:NA) with Zc:=Z { e with pv:=ins e.pv n.me (ae pw (Q vs) B) } },(b.mono fun t q=>.inl q).trans (j.mono fun t q=>.inr (.inl q)),?_,?_⟩
   .have:=g.Yb.Zh j zK;rw[<-GA (Z { r with c:=ins r.c n.me vs }) C (ra':={ e with pv:=ins e.pv n.me (ae pw (Q vs) B) }) rfl]at this;exact this
   .exact Yx.Wy g.pt F C rfl R2
 | false=>
  let⟨cs,pb,pv,y1,y2,y3⟩:=A;have z1:=y1.Zh b zK;have z3:=y3.Zh b zK;have rr:hc g1 ⟨rb,2,ak⟩=Z (.map (Z pb)):=by rw[Br z1.2];exact y2
  have G:=Zb z1.2;simp only[go_sem,E,D,R,X,W,V,s,R1.me,rr,G];rw[Qy Gq z3.2];simp only[go_sem];have j:Kp (fun t=>t=.XM i) o g1 o (al g1 pb (JO (ins pv n.me (ae pw (Q vs) B)))):=(Kp.refl b.YG (fun t=>t=.XM i)).set z3.1 rfl _;exact⟨o,_,(b.mono fun t q=>.inl q).trans (j.mono fun t q=>.inr (.inr q)),g.Yb.Zh j zK,g.pt.xF j hp⟩
theorem gl2(G:Hp)(X Y:Obj):((G.push X).push Y)[G.size]? = Z X:=zK
theorem gs2(G:Hp)(k:Nat)(X Y:Obj):((al G k X).push Y)[G.size]? = Z Y:=by
 grind
theorem gr2(G:Hp)(X Y:Obj):((G.push X).push Y)[G.size+1]? = Z Y:=by
 grind
def sW(B:Nat)(g':Hp)(A C:am)(p:ZN)(l:List Vt)(b:ZN):Prop:=
 ∃d c w1 w2,A=ZC d/\C=ZC c/\B<=d/\B<=c/\g'[d]? = Z (U (XO (if YX p l b=0 then b else ⟨0,0⟩) w1).toArray 100)/\g'[c]? = Z (U [w2].toArray 98) /\
  QY B 141 Zz 8 g' w1 (if YX p l b=0 then l else [])/\QY B 141 Zz 8 g' w2 (if YX p l b=0 then l else [])
def Aq(B:Nat)(g':Hp)(A:am)(l:List Nat)(n:Int)(E:Int)(add:List Nat):Prop:=
 ∃b w,A=an (Z ⟨b,0,ak⟩)/\B<=b/\g'[b]? = Z (U [w,O J (if E=0 then n else 0)].toArray 95)/\YL B 5 g' w (if E=0 then l++add else [])
theorem iA(h:Hp)(o:Ow)(wb i nb:Nat)(Y6:Nat->Nat)(a:NA)(n:Nd)(XY:WA)(fl:List Yt)(YP:Nat->Int)(ZH:List PC)(l:Yt)(w:am)(d:V3 o h)(N:Yg o h wb i nb a n)(W:Z0 o h wb Y6 XY fl YP ZH)(iv:Ta o h w l.vs)(Xq:(Q fl)<=1000000000000)(bS:n.Zn.l.length<=1000000)(bT:(Q n.data)<=1000000)(tb:j1 o h):
  Zg aq T 90 #[ZC wb,ZC nb,aF (Jk l w).toArray] h fun v' h'=>∃o' a' JY,Kp (fun t=>t=.world\/t=.b\/t=.ZM i) o h o' h'/\Yg o' h' wb i nb a' (Y3 n l).n/\Z0 o' h' wb Y6 JY (fl++(Y3 n l).ls) YP ZH:=by
 obtain⟨pw,cw,rfl⟩:=iv.ZR;refine Zg.X8 [_,_,_] Tryz.func90 ?_;unfold ZC Jk;simp only[go_sem];let⟨f,Jt⟩:=ZO (((h.push (U [ZC wb].toArray 86)).push (U [ZC nb].toArray 93)).push (U (Jk l (ae pw (Q l.vs) cw)).toArray 143):Hp);have F:Kp WL o h o f:=by rw[Jt];exact ((Kp.refl d _).push _ |>.push _).push _
 have s1:f.size=h.size+3:=by rw[Jt];simp
 have d1:∀b,h.size<=b->o b=ak:=d;have x3:Yo o f h.size (U [ZC wb].toArray 86):=⟨d _ uh,zK⟩
 have x4:Yo o f (h.size+1) (U [ZC nb].toArray 93):=⟨d _ uh,zK⟩
 have x5:Yo o f (h.size+2) (U (Jk l (ae pw (Q l.vs) cw)).toArray 143):=⟨d _ uh,by
  grind⟩
 have e0:((h.push (U [ZC wb].toArray 86)).push (U [ZC nb].toArray 93)).push (U (Jk l (ae pw (Q l.vs) cw)).toArray 143)=f:=Jt.symm;unfold ZC Jk at e0;rw[e0];clear e0 Jt;have N1:=N.Zt F;have W1:=W.Zt F;have bl:=iv.Zh F;have R1:=ZU N1.Yb.2 N1.pt.store.len;have UE:=Zb N1.Yb.2;have l3:=Zb x3.2;have l4:=Zb x4.2;have l5:=Zb x5.2;have r3:hc f ⟨h.size,0,ak⟩=Z (ZC wb):=Zr x3.2;have r4:hc f ⟨h.size+1,0,ak⟩=Z (ZC nb):=Zr x4.2;have ax:rd f ⟨h.size+2,3,ak⟩ 2=Z [O J l.b.r,O J l.b.n]:=by rw[YZ x5.2 (by simp[Jk])];rfl
 have b7:hc f ⟨h.size+2,1,ak⟩=Z (O J l.c):=Zr x5.2;unfold ZC at r3 r4;have Df:=R1.Zn;let⟨pv,cv,zQ⟩:=N1.pt.c.ZR;rw[zQ]at Df;have call:∀G,Zm f.size f G->Zg aq T 100 #[aF #[O J n.Zn.p.r,O J n.Zn.p.n,ae pv n.Zn.l.length cv],aF #[O J l.b.r,O J l.b.n]] G fun v' h'=>fR G.size h' v' n.Zn.p n.Zn.l l.b/\Zm G.size G h':=fun G hG=>
  Ol T G n.Zn.p _ n.Zn.l l.b (by rw[<-zQ];exact N1.pt.c.ts.YQ hG) uh
 let⟨E,H⟩:=ZO (YX n.Zn.p n.Zn.l l.b);have wA:∀(G:Hp) (k:Nat) (r m:Int) (p:Option Addr) (L c:Nat),G[k]? = Z (U [O J 0,O J 0,ae ak 0 0].toArray 100)->wr G ⟨k,0,ak⟩ [O J r,O J m,ae p L c]=Z (al G k (U [O J r,O J m,ae p L c].toArray 100)):=fun G k r m p L c hx=>by
  rw[Yr hx 0 _];rfl
 have wB:∀(G:Hp) (k:Nat) (p:Option Addr) (L c:Nat),G[k]? = Z (U [ae ak 0 0].toArray 98)->Uf G ⟨k,0,ak⟩ (ae p L c)=Z (al G k (U [ae p L c].toArray 98)):=fun G k p L c hx=>by
  rw[XZ hx 0 _];rfl
 refine VS.mono (N:=fun y g'=>Zm f.size f g'/\y 3=an (Z ⟨h.size,0,ak⟩)/\y 4=an (Z ⟨h.size+1,0,ak⟩)/\y 5=an (Z ⟨h.size+2,0,ak⟩)/\y 8=O J E/\sW f.size g' (y 6) (y 7) n.Zn.p n.Zn.l l.b) ?_ ?_ (fun _ _ _ h=>h) (fun _ _ h=>h)
 .refine VS.z (f.size) [6,13,14] (.q 0 (.p 1 (.p 2 (.q 3 (.p 4 (.q 5 (.or 6 (.p 7 (.p 8 (.p 9 (.p 10 (.or 11 (.s 12 (.w 13 (.w 14 (.p 15 .nil)))) (.s 12 (.s 11 (.w 13 (.w 14 (.p 15 .nil)))))))))) (.or 11 (.or 6 (.p 7 (.p 8 (.p 9 (.p 10 (.s 12 (.w 13 (.w 14 (.p 15 .nil)))))))) (.s 12 (.w 6 (.p 7 (.p 8 (.p 9 (.p 10 (.w 13 (.w 14 (.p 15 .nil)))))))))) (.s 12 (.or 6 (.p 7 (.p 8 (.p 9 (.p 10 (.s 11 (.w 13 (.w 14 (.p 15 .nil)))))))) (.s 11 (.w 6 (.p 7 (.p 8 (.p 9 (.p 10 (.w 13 (.w 14 (.p 15 .nil))))))))))))))))))) mixed zI ?_;simp only[go_sem,r4,Df,ax,UE,l4,l5];unfold sW ZC XO
  repeat' (first|with_reducible exact Zm.refl _ _|with_reducible exact Zm.push uh _|with_reducible refine bw ?_ ?_)
  all_goals first
   | (refine (call f (Zm.refl _ _)).use ?_
      rintro _ z ⟨⟨w1,w2,rfl,j,s⟩,g⟩;obtain⟨p1,K,rfl,_⟩:=j.open;obtain⟨p2,c2,rfl,_⟩:=s.open;rw[<-H]at *;have A:=g.size;unfold XO;simp only[go_sem,g];refine⟨⟨_,_,_,_,rfl,rfl,A,uh,gl2 _ _ _,gr2 _ _ _,(j.push _).push _,(s.push _).push _⟩,⟨_,_,_,_,rfl,rfl,uh,A,gr2 _ _ _,gl2 _ _ _,(j.push _).push _,(s.push _).push _⟩⟩)
   | (refine (call (f.push (U _ 100)) (Zm.push (aw _) _)).use ?_
      rintro _ z ⟨⟨w1,w2,rfl,j,s⟩,g⟩;obtain⟨p1,K,rfl,_⟩:=j.open;obtain⟨p2,c2,rfl,_⟩:=s.open;rw[<-H]at *;have A:=g.size;rw[aI]at A;have V:Zm f.size f z:=(Zm.push (aw _) _).trans (g.mono zX);have x:=g.get (k:=f.size) zX Zf;have OL:=wA _ _ (if E=0 then l.b else ⟨0,0⟩).r (if E=0 then l.b else ⟨0,0⟩).n p1 (if E=0 then n.Zn.l else []).length K x;have X:=Zb x;unfold XO;simp only[go_sem,V,OL,X];exact⟨_,_,_,_,rfl,rfl,aw _,uh,by rw[ZX (by simpa using X)];exact Yp x,gs2 _ _ _ _,((j.Ym zX _).push _).mono zX,((s.Ym zX _).push _).mono zX⟩)
   | (refine (call (f.push (U _ 98)) (Zm.push (aw _) _)).use ?_
      rintro _ z ⟨⟨w1,w2,rfl,j,s⟩,g⟩;obtain⟨p1,K,rfl,_⟩:=j.open;obtain⟨p2,c2,rfl,_⟩:=s.open;rw[<-H]at *;have A:=g.size;rw[aI]at A;have V:Zm f.size f z:=(Zm.push (aw _) _).trans (g.mono zX);have P:=g.get (k:=f.size) zX Zf;have De:=wB _ _ p2 (if E=0 then n.Zn.l else []).length c2 P;have zB:=Zb P;unfold XO;simp only[go_sem,V,De,zB];exact⟨_,_,_,_,rfl,rfl,uh,aw _,gs2 _ _ _ _,by rw[ZX (by simpa using zB)];exact Yp P,((j.Ym zX _).push _).mono zX,((s.Ym zX _).push _).mono zX⟩)
   | (refine (call ((f.push (U _ 100)).push (U _ 98)) ((Zm.push (aw _) _).Xj zX _)).use ?_
      rintro _ z ⟨⟨w1,w2,rfl,j,s⟩,g⟩;obtain⟨p1,K,rfl,_⟩:=j.open;obtain⟨p2,c2,rfl,_⟩:=s.open;rw[<-H]at *;have A:=g.size;rw[aI,aI]at A;have V:Zm f.size f z:=((Zm.push (aw _) _).Xj zX _).trans (g.mono Fo);have x:=g.get (k:=f.size) Fo (gl2 _ _ _);have P:=g.get (k:=f.size+1) zX (gr2 _ _ _);have OL:=wA _ _ (if E=0 then l.b else ⟨0,0⟩).r (if E=0 then l.b else ⟨0,0⟩).n p1 (if E=0 then n.Zn.l else []).length K x;have X:=Zb x;have Hg:=fun o:Obj=>(Xt (o:=o) (show f.size≠f.size+1 by omega)).trans P;have De:=fun o:Obj=>wB _ _ p2 (if E=0 then n.Zn.l else []).length c2 (Hg o);have zB:f.size+1<z.size:=Zb P;unfold XO;simp only[go_sem,V,OL,X,De,zB];exact⟨_,_,_,_,rfl,rfl,uh,uh,(Xt uh).trans (Yp x),Yp (Hg _),((j.Ym Fo _).Ym zX _).mono Fo,((s.Ym Fo _).Ym zX _).mono Fo⟩)
   | (refine (call ((f.push (U _ 98)).push (U _ 100)) ((Zm.push (aw _) _).Xj zX _)).use ?_
      rintro _ z ⟨⟨w1,w2,rfl,j,s⟩,g⟩;obtain⟨p1,K,rfl,_⟩:=j.open;obtain⟨p2,c2,rfl,_⟩:=s.open;rw[<-H]at *;have A:=g.size;rw[aI,aI]at A;have V:Zm f.size f z:=((Zm.push (aw _) _).Xj zX _).trans (g.mono Fo);have P:=g.get (k:=f.size) Fo (gl2 _ _ _);have x:=g.get (k:=f.size+1) zX (gr2 _ _ _);have OL:=wA _ _ (if E=0 then l.b else ⟨0,0⟩).r (if E=0 then l.b else ⟨0,0⟩).n p1 (if E=0 then n.Zn.l else []).length K x;have X:=Zb x;have Hg:=fun o:Obj=>(Xt (o:=o) (show f.size+1≠f.size by omega)).trans P;have De:=fun o:Obj=>wB _ _ p2 (if E=0 then n.Zn.l else []).length c2 (Hg o);have zB:f.size<z.size:=Zb P;unfold XO;simp only[go_sem,V,OL,X,De,zB];exact⟨_,_,_,_,rfl,rfl,uh,uh,(Xt uh).trans (Yp x),Yp (Hg _),((j.Ym zX _).Ym Fo _).mono Fo,((s.Ym zX _).Ym Fo _).mono Fo⟩)
 .rintro F1 g1 ⟨b1,f3,Y,f5,f8,ka,R,w1,w2,fA,fC,bN,bK,yA,yC,j,s⟩;rw[<-H]at yA j s;have kb:=Z9 F.YG b1;have N2:=N1.Zt kb;have W2:=W1.Zt kb;have K2:Kp WL o h o g1:=F.YQ b1;have y3:=x3.Zh kb;have y4:=x4.Zh kb;have y5:=x5.Zh kb;have bR:=bl.Zh kb;have md:=(tb.Zh F).Zh kb;have R2:=ZU N2.Yb.2 N2.pt.store.len;have m3:=Zb y3.2;have m4:=Zb y4.2;have m5:=Zb y5.2;have UP:=Zb N2.Yb.2;have q3:hc g1 ⟨h.size,0,ak⟩=Z (ZC wb):=Zr y3.2;have C:hc g1 ⟨h.size+1,0,ak⟩=Z (ZC nb):=Zr y4.2;have sX:rd g1 ⟨h.size+2,3,ak⟩ 2=Z [O J l.b.r,O J l.b.n]:=by rw[YZ y5.2 (by simp[Jk])];rfl
  have aW:hc g1 ⟨h.size+2,1,ak⟩=Z (O J l.c):=Zr y5.2;unfold ZC at q3 C;have b6:=R2.iu;by_cases e:E=0
  case neg=>
   have eP:Y3 n l=⟨n,[⟨7,n.me,l.c,n.Zn.p,Ps,[]⟩],[]⟩:=by unfold Y3;rw[<-H,if_pos e]
   rw[eP];simp only[go_sem,f8,e];refine VS.z (g1.size) [10] (.q 0 (.q 1 (.p 2 (.q 3 (.q 4 (.p 5 (.p 6 (.p 7 (.q 8 (.p 9 (.w 10 .nil))))))))))) mixed zI ?_;simp only[go_sem,f3,Y,f5,q3,C,aW,b6,m3,m4,m5,UP];refine (TB T g1 o wb nb Y6 n.me XY fl YP ZH l.c ⟨7,0,0,n.Zn.p,Ps,[]⟩ (ae ak 0 0) K2.YG W2 R2.me UP (Im.nil _ _ _ _) Xq).use ?_;rintro v' h' ⟨o',JY,k,_,W'⟩;simp only[go_sem];exact⟨o',a,JY,(Ya K2).trans (k.mono fun t q=>q.elim .inl fun q=>.inr (.inl q)),N2.Zh k aab,W'⟩
  rw[if_pos e]at yA j s;have b9:Ta o g1 w2 n.Zn.l:=Im.Vp s.Zn (fun b hb=>F.YG b hb);have bb:Ta o g1 w1 n.Zn.l:=Im.Vp j.Zn (fun b hb=>F.YG b hb);unfold ZC at fA fC;simp only[go_sem,f8,e,f3,Y,f5,fC];let⟨u,VJ⟩:=ZO (g1.push (U [SD 107 [h.size,h.size+1,h.size+2,R]].toArray 1):Hp);have B:=YK K2.YG (U [SD 107 [h.size,h.size+1,h.size+2,R]].toArray 1);rw[<-VJ]at B;have K3:Kp WL o h o u:=K2.trans B;have x9:Yo o u g1.size (U [SD 107 [h.size,h.size+1,h.size+2,R]].toArray 1):=⟨K2.YG _ (aw _),zK⟩
  have I:g1.push (U [SD 107 [h.size,h.size+1,h.size+2,R]].toArray 1)=u:=VJ.symm;unfold SD at I;simp only[a9]at I;unfold ZC at I;rw[I];clear I VJ;have N3:=N2.Zt B;have W3:=W2.Zt B;have z3:=y3.Zh B;have z4:=y4.Zh B;have z5:=y5.Zh B;have z6:=(show Yo o g1 ka _ from⟨F.YG ka bN,yA⟩).Zh B;have z7:=(show Yo o g1 R _ from⟨F.YG R bK,yC⟩).Zh B;have b2:=b9.Zh B;have b8:=bb.Zh B;have tb3:=md.Zh B;clear R2 b6 m3 m4 m5 UP q3 C sX aW R1 Df UE l3 l4 l5 r3 r4 ax b7;have R3:=ZU N3.Yb.2 N3.pt.store.len;have m3:=Zb z3.2;have m4:=Zb z4.2;have m5:=Zb z5.2;have m9:=Zb x9.2;have Lx:=Zb N3.Yb.2;have C:hc u ⟨h.size+1,0,ak⟩=Z (ZC nb):=Zr z4.2;have sX:rd u ⟨h.size+2,3,ak⟩ 2=Z (Q0 l.b):=by rw[YZ z5.2 (by simp[Jk])];rfl
  have q9:hc u ⟨g1.size,0,ak⟩=Z (SD 107 [h.size,h.size+1,h.size+2,R]):=Zr x9.2;have b4:rd u ⟨nb,4,ak⟩ 2=Z (Q0 n.Zn.p):=R3.iu;unfold ZC at C;refine VS.q mixed zI ?_;simp only[go_sem,Y,f5,C,sX,b4];by_cases ep:n.Zn.p=l.b
  .have eP:Y3 n l=⟨n,[⟨1,n.me,l.c,l.b,Ps,n.Zn.l⟩],[]⟩:=by unfold Y3;rw[<-H,if_neg uh,if_pos ep]
   rw[eP];unfold SD at q9;simp only[a9]at q9;unfold ZC at q9;simp only[go_sem,ep,q9];refine (sR T u o wb nb Y6 n.me XY fl YP ZH h.size (h.size+1) (h.size+2) R l _ w2 n.Zn.l K3.YG W3 R3.me Lx Xq z3 z4 z5 z7 b2).use ?_;rintro v' h' ⟨o',JY,k,W'⟩;simp only[go_sem];exact⟨o',a,JY,(Ya K3).trans (k.mono fun t q=>q.elim .inl fun q=>.inr (.inl q)),N3.Zh k aab,W'⟩
  simp only[go_sem,ep];have a2:=R3.tape;let⟨pd,cd,PK⟩:=N3.pt.data.1.ZR;rw[PK]at a2;let⟨E2,a1⟩:=ZO (JS n.data n.XI l.b);have call2:∀G,Zm u.size u G->Zg aq T 108 #[aF #[ae pd (Q n.data) cd,O J n.XI],aF #[O J l.b.r,O J l.b.n]] G fun v' h'=>Oo G.size h' v' n.data n.XI E2 (Xm (QA l.b))/\Zm G.size G h':=fun G hG=>by
   rw[a1];exact Gi T G _ n.XI n.data l.b (by rw[<-PK];exact N3.pt.data.bs.YQ hG) uh (tb3.tk.QL hG)
  have wT:∀(G:Hp) (k:Nat) (m:Int) (p:Option Addr) (L c:Nat),G[k]? = Z (U [ae ak 0 0,O J 0].toArray 95)->wr G ⟨k,0,ak⟩ [ae p L c,O J m]=Z (al G k (U [ae p L c,O J m].toArray 95)):=fun G k m p L c hx=>by
   rw[Yr hx 0 _];rfl
  unfold Q0 at sX;refine VS.mono (N:=fun y g'=>Zm u.size u g'/\y 3=an (Z ⟨h.size,0,ak⟩)/\y 4=an (Z ⟨h.size+1,0,ak⟩)/\y 5=an (Z ⟨h.size+2,0,ak⟩)/\y 6=an (Z ⟨ka,0,ak⟩)/\y 9=an (Z ⟨g1.size,0,ak⟩)/\y 8=O J E2/\Aq u.size g' (y 10) n.data n.XI E2 (Xm (QA l.b))) ?_ ?_ (fun _ _ _ h=>h) (fun _ _ h=>h)
  .refine VS.z (u.size) [6,11] (.q 0 (.p 1 (.p 2 (.q 3 (.p 4 (.q 5 (.or 6 (.p 7 (.p 8 (.p 9 (.s 10 (.w 11 (.p 12 .nil)))))) (.s 10 (.w 6 (.p 7 (.p 8 (.p 9 (.w 11 (.p 12 .nil)))))))))))))) mixed zI ?_;simp only[go_sem,f3,Y,f5,fA,C,a2,sX,m4,m5,Lx];unfold Aq
   repeat' (first|with_reducible exact Zm.refl _ _|with_reducible exact Zm.push uh _|with_reducible refine bw ?_ ?_)
   all_goals first
    | (refine (call2 u (Zm.refl _ _)).use ?_
       rintro _ z ⟨⟨w,rfl,j⟩,g⟩;obtain⟨p1,K,rfl,_⟩:=j.bs.open;have A:=g.size;simp only[go_sem,g];exact⟨f3,Y,f5,fA,_,_,rfl,A,Zf,j.push _⟩)
    | (refine (call2 (u.push (U _ 95)) (Zm.push (aw _) _)).use ?_
       rintro _ z ⟨⟨w,rfl,j⟩,g⟩;obtain⟨p1,K,rfl,_⟩:=j.bs.open;have V:Zm u.size u z:=(Zm.push (aw _) _).trans (g.mono zX);have x:=g.get (k:=u.size) zX Zf;have OL:=wT _ _ (if E2=0 then n.XI else 0) p1 (if E2=0 then n.data++Xm (QA l.b) else []).length K x;have X:=Zb x;simp only[go_sem,V,OL,X];exact⟨f3,Y,f5,fA,_,_,rfl,aw _,Yp x,(j.Ym zX _).mono zX⟩)
  .rintro F2 g3 ⟨b3,f3,Y,f5,f6,f9,f8,kt,wt,fT,bW,yT,oT⟩;have M:=Z9 K3.YG b3;have N4:=N3.Zt M;have W4:=W3.Zt M;have K4:Kp WL o h o g3:=K3.YQ b3;by_cases I:E2=0
   case neg=>
    have eP:Y3 n l=⟨n,[],[]⟩:=by unfold Y3;rw[<-H,if_neg uh,if_neg ep,<-a1,if_pos I]
    rw[eP,a7];simp only[go_sem,f8,I];exact⟨o,a,XY,Ya K4,N4,W4⟩
   rw[if_pos I]at yT oT;have u3:=z3.Zh M;have u4:=z4.Zh M;have u5:=z5.Zh M;have u6:=z6.Zh M;have u7:=z7.Zh M;have u9:=x9.Zh M;have bG:=b8.Zh M;have bp:=b2.Zh M;have iT:Rb o g3 wt (n.data++Xm (QA l.b)):=⟨Im.Vp oT.Zn (fun b hb=>K3.YG b hb),oT.byte⟩
   have eP:Y3 n l=⟨{ n with data:=n.data++Xm (QA l.b),Zo:=Z (.QB ⟨l.b,n.Zn.l⟩ l.c l.b n.Zn.l) },[],[]⟩:=by unfold Y3;rw[<-H,if_neg uh,if_neg ep,<-a1,if_neg uh]
   rw[eP,a7];clear R3 m3 m4 m5 m9 Lx C sX q9 b4 a2;obtain⟨pt,ct,rfl,_⟩:=oT.bs.open;have C:hc g3 ⟨h.size+1,0,ak⟩=Z (ZC nb):=Zr u4.2;have qT:rd g3 ⟨kt,0,ak⟩ 2=Z [ae pt (n.data++Xm (QA l.b)).length ct,O J n.XI]:=ZB yT rfl;have Fl:=Zb N4.Yb.2;let⟨g4,w4,N5,D⟩:=Yx.write (a:={ a with data:=ae pt (n.data++Xm (QA l.b)).length ct }) (n:={ n with data:=n.data++Xm (QA l.b) }) { N4.pt with data:=iT } K4.YG N4.Yb ((X4 N4.Yb.2 N4.pt.store.len).tape (ae pt (n.data++Xm (QA l.b)).length ct) n.XI rfl);have v4:=u4.Zh D;have b0:hc g4 ⟨h.size+1,0,ak⟩=Z (ZC nb):=Zr v4.2;have Ly:=Zb N5.Yb.2;have pn:VU o g4 wb i nb a.Zc (SD 109 [ka,h.size+1,g1.size]) (Z (.QB ⟨l.b,n.Zn.l⟩ l.c l.b n.Zn.l)):=
    ⟨ka,h.size+1,g1.size,_,rfl,⟨_,u6.Zh D,bG.Zh D⟩,v4,u9.Zh D,h.size,h.size+1,h.size+2,R,l,_,w2,rfl,u3.Zh D,v4,u5.Zh D,rfl,rfl,u7.Zh D,bp.Zh D⟩
   let⟨g6,w6,N6,k6⟩:=Yx.write (a:={ a with data:=ae pt (n.data++Xm (QA l.b)).length ct,Zo:=SD 109 [ka,h.size+1,g1.size] }) (n:={ n with data:=n.data++Xm (QA l.b),Zo:=Z (.QB ⟨l.b,n.Zn.l⟩ l.c l.b n.Zn.l) }) { N5.pt with Zo:=pn } D.YG N5.Yb ((X4 N5.Yb.2 N5.pt.store.len).Zo (SD 109 [ka,h.size+1,g1.size]) rfl);unfold SD at w6;simp only[a9]at w6;unfold ZC at C b0 w6;simp only[go_sem,f8,I,Y,f6,f9,fT,C,qT,w4,Fl,b0,w6,Ly];have K6:Kp (fun t=>t=.world\/t=.b\/t=.ZM i) o h o g6:=((Ya K4).trans (D.mono fun t q=>.inr (.inr q))).trans (k6.mono fun t q=>.inr (.inr q));exact⟨o,_,XY,K6,N6,(W4.Zh D HS).Zh k6 HS⟩
end Go.Proofs.YtkhkmpfenaipaaaGreatDoor

/- The nodes of a cluster, in plain words: what each piece of the program makes of them. Definitions alone. -/
import Derived.Test.YtnhbpmoeaodmnaaGreatDoorOpn
import Derived.Test.YtnhbpmoeaodmnaaGreatDoorMix
import Derived.Test.YtnhbpmoeaodmnaaGreatDoorChw
import Derived.Test.YtnhbpmoeaodmnaaGreatDoorPik
import Derived.Test.YtnhbpmoeaodmnaaGreatDoorW25
namespace Go.Proofs.YtnhbpmoeaodmnaaGreatDoor
open Go Go.V
set_option linter.unusedSimpArgs false
set_option linter.unusedVariables false
deriving instance DecidableEq for Yw
deriving instance DecidableEq for Vt
deriving instance DecidableEq for J7
abbrev Cm:=J7
def cm0:Cm:=⟨0,0,0,0,0⟩
def J7.C (x:J7):List Value:=Qr x.k x.c x.s x.n x.v
def J7.err (x:J7):Int:=YQ x.k x.c x.s x.n x.v
def Vt.cm (v:Vt):Cm:=⟨v.k,v.c,v.s,v.nm,v.v⟩
def ZbI (s:Int) (b:Yw) (x:Cm):Vt:=⟨s,b,x.k,x.c,x.s,x.n,x.v⟩
def Jf:Yw:=⟨0,0⟩
structure Y6 where
 kind:Int
 Jm:Int
 to:Int
 b:Yw
 v:Vt
 vs:List Vt
structure Jg where
 b:Yw
 prom:List (Int × List Vt)
 begun:Bool
 prop:List (Int × Cm)
 Xp:List (Int × List (Int × Unit))
inductive Pnd where
 | pro (a:Qt) (to:Int) (b:Yw) (vs:List Vt)
 | vot (a:Qt) (to:Int) (v:Vt)
 | own (a:Qt) (vs:List Vt) (cur:Bool)
structure Nd where
 me:Nat
 up:Bool
 data:List Nat
 Y4:Int
 own:Qt
 heard:Yw
 Zh:Option Jg
 known:List (Int × Cm)
 log:List Cm
 store:List Value
 queue:List Cm
 waiting:List Cm
 inbox:List Y6
 Zy:Option Pnd
 Xg:Int
structure Tld where
 node:Int
 c:Int
 s:Int
 code:Int
 val:Int
structure Wd where
 nodes:Nat→Nd
 Zl:List Y6
 bad:Nat→Int
 told:List Tld
structure Out where
 n:Nd
 ls:List Y6
 ts:List Tld
def YW (n:Nd) (l:Y6):Out:=
 if Yo n.own.p n.own.l l.b≠0 then ⟨n,[⟨7,n.me,l.Jm,n.own.p,vt0,[]⟩],[]⟩
 else if n.own.p=l.b then ⟨n,[⟨1,n.me,l.Jm,l.b,vt0,n.own.l⟩],[]⟩
 else if JS n.data n.Y4 l.b≠0 then ⟨n,[],[]⟩
 else ⟨{ n with data:=n.data++Yj (XQ l.b),Zy:=some (.pro ⟨l.b,n.own.l⟩ l.Jm l.b n.own.l) },[],[]⟩
def asked (n:Nd) (l:Y6):Out:=
 if YG n.own.p n.own.l l.v≠0 then ⟨n,[⟨7,n.me,l.Jm,n.own.p,vt0,[]⟩],[]⟩
 else if l.v∈n.own.l then ⟨n,[⟨3,n.me,l.Jm,Jf,l.v,[]⟩],[]⟩
 else if QT n.data n.Y4 l.v≠0 then ⟨n,[],[]⟩
 else ⟨{ n with data:=n.data++Yj (Qs l.v),Zy:=some (.vot ⟨l.v.b,Js n.own.l l.v⟩ l.Jm l.v) },[],[]⟩
def ZjB (st:List Value) (x:Cm):List Value:=if Zd3 st x=0 then (Za5 st x).cells else Jx
def Zc6 (st:List Value) (x:Cm):Int:=if Zd3 st x=0 then (Za5 st x).code else 0
def ZgV (st:List Value) (x:Cm):Int:=if Zd3 st x=0 then (Za5 st x).val else 0
def UW (n:Nd) (x:Cm):Nd:={ n with log:=n.log++[x],store:=ZjB n.store x,queue:=n.queue.filter (fun y=>decide (y≠x)),waiting:=n.waiting.erase x }
def Zbx (n:Nd) (x:Cm):List Tld:=if x∈n.waiting then [⟨n.me,x.c,x.s,Zc6 n.store x,ZgV n.store x⟩] else []
def Yy:Nat→Nd→Nd × List Tld
 | 0,n=>(n,[])
 | k+1,n=>match Yp n.known n.log.length with
  | none=>(n,[])
  | some x=>((Yy k (UW n x)).1,Zbx n x++(Yy k (UW n x)).2)
def QU (n:Nd) (s:Int) (x:Cm):Nd:={ n with known:=ins n.known s x }
def UX (n:Nd) (s:Int) (x:Cm):Out:=
 ⟨(Yy ((QU n s x).known.length+1) (QU n s x)).1,[],(Yy ((QU n s x).known.length+1) (QU n s x)).2⟩
def Zyv (n:Nd) (r:Jg) (l:Y6):Nd:={ n with Zh:=some { r with prom:=ins r.prom l.Jm l.vs } }
def UY (r:Jg) (l:Y6):List (Int × Unit):=ins ((Yp r.Xp l.v.slot).getD []) l.Jm ()
def Zfw (n:Nd) (r:Jg) (l:Y6):Nd:={ n with Zh:=some { r with Xp:=ins r.Xp l.v.slot (UY r l) } }
def Yv (n:Nd) (l:Y6):Out:=
 match n.Zh with
 | none=>⟨n,[],[]⟩
 | some r=>
  if l.kind=1 then (if l.b=r.b then ⟨Zyv n r l,[],[]⟩ else ⟨n,[],[]⟩)
  else if l.v.b≠r.b then ⟨n,[],[]⟩
  else if 5<2*(UY r l).length then UX (Zfw n r l) l.v.slot l.v.cm
  else ⟨Zfw n r l,[],[]⟩
def add (n:Nd) (x:Cm):Nd:=if x∈n.queue∨x∈n.log then n else { n with queue:=n.queue++[x] }
def notes (n:Nd) (l:Y6):Nd:=if below n.heard l.b then { n with heard:=l.b } else n
def Zat (n:Nd) (l:Y6):Out:=
 match Yp n.known l.v.slot with
 | some x=>⟨notes n l,[⟨6,n.me,l.Jm,Jf,ZbI l.v.slot Jf x,[]⟩],[]⟩
 | none=>⟨notes n l,[],[]⟩
def handle (n:Nd) (l:Y6):Out:=
 if l.kind=0 then YW n l else if l.kind=1∨l.kind=3 then Yv n l else if l.kind=2 then asked n l
 else if l.kind=4 then ⟨add n l.v.cm,[],[]⟩ else if l.kind=5 then Zat n l else if l.kind=6 then UX n l.v.slot l.v.cm else ⟨notes n l,[],[]⟩
def Z2 (r:Jg):List (List Vt):=(List.range 5).map fun (m:Nat)=>(Yp r.prom (m:Int)).getD []
def Zc7 (l:List Vt):Int:=l.foldl (fun t v=>if t<v.slot then v.slot else t) (-1)
def Zb6 (LL:List (List Vt)) (s:Int):Cm:=if Zaq s LL.flatten=0 then (QR s LL.flatten).cm else cm0
def XH (n:Nd) (LL:List (List Vt)) (pr:List (Int × Cm)) (s:Nat):List (Int × Cm):=if Yp n.known (s:Int)=none then ins pr (s:Int) (Zb6 LL s) else pr
def Zby (n:Nd) (r:Jg):Jg:=
 { r with prop:=(List.range' n.log.length ((Zc7 (Z2 r).flatten+1).toNat-n.log.length)).foldl (XH n (Z2 r)) r.prop,begun:=true }
def QA (n:Nd) (r:Jg) (x:Cm):Nat→Nat→Option Nat
 | 0,_=>none
 | k+1,s=>if Yp r.prop (s:Int)=some x∨Yp n.known (s:Int)=some x then none
  else if Yp r.prop (s:Int)=none∧Yp n.known (s:Int)=none then some s else QA n r x k (s+1)
def free (n:Nd) (r:Jg) (x:Cm):Option Nat:=QA n r x (40-n.log.length) n.log.length
def UZ (n:Nd) (r:Jg) (x:Cm):Jg:=match free n r x with|some s=>{ r with prop:=ins r.prop (s:Int) x }|none=>r
def Jn (n:Nd) (r:Jg) (l:List Cm):Jg:=l.foldl (UZ n) r
def ZeA (n:Nd) (r:Jg):List Y6:=(List.range 5).flatMap fun (m:Nat)=>if Yp r.prom (m:Int)=none then [⟨0,n.me,m,r.b,vt0,[]⟩] else []
def Zc8 (n:Nd) (r:Jg) (s:Nat) (x:Cm) (m:Nat):List Y6:=if Yp ((Yp r.Xp (s:Int)).getD []) (m:Int)=none then [⟨2,n.me,m,Jf,ZbI s r.b x,[]⟩] else []
def Zab (n:Nd) (r:Jg) (s:Nat):List Y6:=match Yp r.prop (s:Int) with
 | some x=>if Yp n.known (s:Int)=none then (List.range 5).flatMap (Zc8 n r s x) else []
 | none=>[]
def Zd4 (n:Nd) (r:Jg):List Y6:=(List.range 40).flatMap (Zab n r)
def Uh (n:Nd) (r:Jg):Jg:=Jn n (if r.begun=true then r else Zby n r) n.queue
def QH (n:Nd) (r:Jg):Out:=
 if below n.own.p r.b then
  (if JS n.data n.Y4 r.b≠0 then ⟨n,[],[]⟩ else
    ⟨{ n with data:=n.data++Yj (XQ r.b),Zy:=some (.own (if Yo n.own.p n.own.l r.b=0 then ⟨r.b,n.own.l⟩ else XR) (if Yo n.own.p n.own.l r.b=0 then n.own.l else []) true) },[],[]⟩)
 else if ¬5<2*r.prom.length then ⟨n,ZeA n r,[]⟩
 else ⟨{ n with Zh:=some (Uh n r) },Zd4 n (Uh n r),[]⟩
def still (n:Nd):Nd:=match n.Zh with|some r=>if below r.b n.own.p then { n with Zh:=none } else n|none=>n
def Za6 (n:Nd):List Y6:=n.queue.map fun x=>⟨4,n.me,n.own.p.n,Jf,ZbI 0 Jf x,[]⟩
def Yz (n:Nd):Out:=match n.Zh with
 | some r=>QH n r
 | none=>if 0<n.own.p.r∧n.own.p.n≠n.me then ⟨n,Za6 n,[]⟩ else ⟨n,[],[]⟩
def Uq (n:Nd):Yw:=if below n.own.p n.heard then n.heard else n.own.p
def Qc (n:Nd):Nd:={ n with Xg:=(n.Xg+1)%5 }
def ZaH (n:Nd):List Y6:=if n.Xg≠n.me∧n.log.length<40 then [⟨5,n.me,n.Xg,Uq n,ZbI n.log.length Jf cm0,[]⟩] else []
def ZaI (n:Nd):Out:=
 if (Yz (still n)).n.Zy.isSome=true then Yz (still n)
 else ⟨Qc (Yz (still n)).n,(Yz (still n)).ls++ZaH (Qc (Yz (still n)).n),[]⟩
def synced (n:Nd):Nd:={ n with data:=if YJ n.data n.Y4 then n.data else [],Y4:=if YJ n.data n.Y4 then (n.data.length:Int) else 0,Zy:=none }
def finish (n:Nd):Pnd→Out
 | .pro a to b vs=>⟨{ n with own:=a },[⟨1,n.me,to,b,vt0,vs⟩],[]⟩
 | .vot a to v=>⟨{ n with own:=a },[⟨3,n.me,to,Jf,v,[]⟩],[]⟩
 | .own a vs cur=>⟨{ n with own:=a,Zh:=if cur=true then n.Zh.map (fun r=>{ r with prom:=ins r.prom n.me vs }) else n.Zh },[],[]⟩
def drain:Nd→List Y6→Out
 | n,[]=>⟨{ n with inbox:=[] },[],[]⟩
 | n,l :: k=>if n.Zy.isSome=true then ⟨{ n with inbox:=l :: k },[],[]⟩
  else ⟨(drain (handle { n with inbox:=k } l).n k).n,(handle { n with inbox:=k } l).ls++(drain (handle { n with inbox:=k } l).n k).ls,(handle { n with inbox:=k } l).ts++(drain (handle { n with inbox:=k } l).n k).ts⟩
def step (n:Nd):Out:=
 if n.up=true then (match n.Zy with
  | some p=>finish (synced n) p
  | none=>if (drain n n.inbox).n.Zy.isSome=true then drain n n.inbox
   else ⟨(ZaI (drain n n.inbox).n).n,(drain n n.inbox).ls++(ZaI (drain n n.inbox).n).ls,(drain n n.inbox).ts++(ZaI (drain n n.inbox).n).ts⟩)
 else ⟨n,[],[]⟩
def blank (i:Nat) (up:Bool) (data:List Nat) (Y4:Int) (own:Qt):Nd:=⟨i,up,data,Y4,own,Jf,none,[],[],Jx,[],[],[],none,0⟩
def Xv (n:Nd):Yw:=⟨match n.Zh with
 | some r=>max (max n.own.p.r n.heard.r+1) (r.b.r+1)
 | none=>max n.own.p.r n.heard.r+1,n.me⟩
def Xb:Option Pnd→Option Pnd
 | some (.own a vs _)=>some (.own a vs false)
 | p=>p
def lead (n:Nd):Nd:=if n.up=false∨65536<(Xv n).r then n else { n with Zh:=some ⟨Xv n,[],false,[],[]⟩,Zy:=Xb n.Zy }
def Ui (rc:List Nat) (now:Int):Cm:=if Y8 rc now=0 then ⟨Xm ((JN rc).drop 22) 0,Xm ((JN rc).drop 22) 1,Xm ((JN rc).drop 22) 2,Xm ((JN rc).drop 22) 3,Xm ((JN rc).drop 22) 4⟩ else cm0
def ZgW (l:List Nat):Nat→Qt→Nat→Qt × Nat
 | 0,a,k=>(a,k)
 | f+1,a,k=>match Yk l a k with
  | none=>(a,k)
  | some x=>ZgW l f x.1 x.2
def U0 (l:List Nat):Qt × Nat:=ZgW l (l.length+1) XR 0
def J8 (l:List Nat) (n k:Int):Int:=n+(if (l.length:Int)-n<k then (l.length:Int)-n else k)
def crashed (i:Nat) (n:Nd) (Zc:Int):Nd:=
 if n.up=true then (if YJ n.data n.Y4∧0≤Zc then blank i false (n.data.take (J8 n.data n.Y4 Zc).toNat) (J8 n.data n.Y4 Zc) XR else blank i false [] 0 XR) else n
def ZgX (l:List Nat) (n:Int):List Nat:=if YJ l n then l.take (U0 l).2 else []
def ZnC (l:List Nat) (n:Int):Int:=if YJ l n then (if ((U0 l).2:Int)<n then ((U0 l).2:Int) else n) else 0
def started (i:Nat) (n:Nd):Nd:=
 if n.up=true then n else blank i true (ZgX n.data n.Y4) (ZnC n.data n.Y4) (if YJ (ZgX n.data n.Y4) (ZnC n.data n.Y4) then (U0 (ZgX n.data n.Y4)).1 else XR)
structure Ac where
 kind:Int
 node:Nat
 at':Nat
 Zc:Int
 data:List Nat
def Wd.set (w:Wd) (i:Nat) (n:Nd):Wd:={ w with nodes:=fun j=>if j=i then n else w.nodes j }
def Wd.out (w:Wd) (i:Nat) (o:Out):Wd:={ nodes:=fun j=>if j=i then o.n else w.nodes j,Zl:=w.Zl++o.ls,bad:=w.bad,told:=w.told++o.ts }
def UM (w:Wd) (l:Y6):Wd:=if (w.nodes l.to.toNat).up=true then w.set l.to.toNat { w.nodes l.to.toNat with inbox:=(w.nodes l.to.toNat).inbox++[l] } else w
def pick (w:Wd) (at':Nat) (comes stays:Bool):Wd:=
 match w.Zl[at'%w.Zl.length]? with
 | none=>w
 | some l=>if comes=true then UM (if stays=true then w else { w with Zl:=w.Zl.eraseIdx (at'%w.Zl.length) }) l else (if stays=true then w else { w with Zl:=w.Zl.eraseIdx (at'%w.Zl.length) })
def ZeB (n:Nd) (x:Cm):Nd:=if x∈n.waiting then n else { n with waiting:=n.waiting++[x] }
def Zc9 (w:Wd) (i:Nat) (data:List Nat):Wd:=
 if (w.nodes i).up=true then
  (if Y8 data (w.nodes i).log.length≠0 then { w with bad:=fun j=>if j=i then w.bad i+1 else w.bad j }
  else if Ui data (w.nodes i).log.length∈(w.nodes i).log then
   { w with told:=w.told++[⟨(w.nodes i).me,(Ui data (w.nodes i).log.length).c,(Ui data (w.nodes i).log.length).s,Zc6 (w.nodes i).store (Ui data (w.nodes i).log.length),ZgV (w.nodes i).store (Ui data (w.nodes i).log.length)⟩] }
  else w.set i (ZeB (add (w.nodes i) (Ui data (w.nodes i).log.length)) (Ui data (w.nodes i).log.length)))
 else w
def act (w:Wd) (a:Ac):Wd:=
 if a.kind=1 then Zc9 w a.node a.data
 else if a.kind=2 then w.set a.node (lead (w.nodes a.node))
 else if a.kind=3 then w.out a.node (step (w.nodes a.node))
 else if a.kind=4∨a.kind=5∨a.kind=6 then pick w a.at' (decide (a.kind≠5)) (decide (a.kind=6))
 else if a.kind=7 then w.Zl.foldl UM { w with Zl:=[] }
 else if a.kind=8 then w.set a.node (crashed a.node (w.nodes a.node) a.Zc)
 else w.set a.node (started a.node (w.nodes a.node))
def ZaJ:Wd:=⟨fun i=>blank i true [] 0 XR,[],fun _=>0,[]⟩
def Za7 (l:List Ac):Wd:=l.foldl act ZaJ
set_option maxRecDepth 100000
@[go_sem] theorem Za8:tmi Tryz.prog 65=some 77:=by kernel_rfl
@[go_sem] theorem Zfg:tmi Tryz.prog 119=some 61:=by kernel_rfl
@[go_sem] theorem ZgY:tmi Tryz.prog 120=some 175:=by kernel_rfl
@[go_sem] theorem Ziu:tmi Tryz.prog 175=some 176:=by kernel_rfl
@[go_sem] theorem Ztx:tmi Tryz.prog 151=some 150:=by kernel_rfl
@[go_sem] theorem Zd5:tzv Tryz.prog 77=some (.agg cm0.C.toArray):=by kernel_rfl
@[go_sem] theorem Zty:tzv Tryz.prog 61=some (.slice none 0 0):=by kernel_rfl
@[go_sem] theorem Ziv:tzv Tryz.prog 175=some (.map none):=by kernel_rfl
@[go_sem] theorem Zxc:tzv Tryz.prog 176=some (.agg #[]):=by kernel_rfl
@[go_sem] theorem ZBo:tzv Tryz.prog 150=some .nilFunc:=by kernel_rfl
@[go_sem] theorem ZLS:tkp Tryz.prog 64=true:=by kernel_rfl
@[go_sem] theorem ZLT:tkm Tryz.prog 175=true:=by kernel_rfl
@[go_sem] theorem ZLU:tkf Tryz.prog 1=true:=by kernel_rfl
inductive Tg where
 | world
 | nodes
 | Zl
 | told
 | node (i:Nat)
 | known (i:Nat)
 | log (i:Nat)
 | queue (i:Nat)
 | waiting (i:Nat)
 | inbox (i:Nat)
 | Zh (i:Nat)
 | prom (i:Nat)
 | prop (i:Nat)
 | Xp (i:Nat)
 | Zbz (i:Nat) (s:Int)
 | Xb (i:Nat)
def Tg.of:Tg→Option Nat
 | .world=>none
 | .nodes=>none
 | .Zl=>none
 | .told=>none
 | .node i=>some i
 | .known i=>some i
 | .log i=>some i
 | .queue i=>some i
 | .waiting i=>some i
 | .inbox i=>some i
 | .Zh i=>some i
 | .prom i=>some i
 | .prop i=>some i
 | .Xp i=>some i
 | .Zbz i _=>some i
 | .Xb i=>some i
abbrev Ow:=Nat→Option Tg
structure Im (o:Ow) (n:Nat) (h:Hp) (v:Value) (m:Nat) (cs:List Value):Prop where
 sl:Sl n h v m cs
 fits:∃p c,v=.slice p m c∧m≤c
 free:∀b,ZT v=some b→b<h.size∧o b=none
theorem Im.Zc {S:Tg→Prop} {o o':Ow} {n m:Nat} {h h':Hp} {v:Value} {cs:List Value} (s:Im o n h v m cs) (k:Kp S o h o' h'):Im o' n h' v m cs:=by
 obtain⟨⟨p,c,rfl,hl,hcc⟩,⟨p',c',he,hm⟩,hf⟩:=s
 simp only[Value.slice.injEq,true_and]at he
 obtain⟨rfl,rfl⟩:=he
 have hf':∀b,ZT (.slice p m c)=some b→b<h.size∧o b=none∧h'[b]? = h[b]? ∧ o' b=none:=fun b hb=>by
  obtain⟨h1,h2⟩:=hf b hb
  obtain⟨h3,h4⟩:=k.Zc b h1 fun t ht=>by rw[h2]at ht;cases ht
  exact⟨h1,h2,h3,by rw[h4,h2]⟩
 refine⟨⟨p,c,rfl,hl,fun Ys=>?_⟩,⟨p,c,rfl,hm⟩,fun b hb=>⟨Nat.lt_of_lt_of_le (hf' b hb).1 k.size,(hf' b hb).2.2.2⟩⟩
 obtain⟨b,off,rfl,YR⟩:=hcc Ys
 have hc0:c≠0:=by
  intro e
  have:m=0:=by omega
  subst this
  exact Ys (List.eq_nil_of_length_eq_zero (by simpa using hl))
 have hb:ZT (.slice (some ⟨b,off,none⟩) m c)=some b:=by simp[ZT,hc0]
 refine⟨b,off,rfl,fun i hi=>?_⟩
 have:=YR i hi
 unfold hc at this ⊢
 rw[(hf' b hb).2.2.1]
 exact this
theorem Im.QV {o:Ow} {B n m:Nat} {E:TypeId} {h:Hp} {v:Value} {cs:List Value} (s:Qq B E n h v m cs) (hd:∀b,B≤b→o b=none):Im o n h v m cs:=by
 refine⟨s.sl,?_,fun b hb=>?_⟩
 ·rcases s with⟨⟨p,rfl⟩,rfl,_⟩|⟨b,cap,sp,_,rfl,_,_,_,hm⟩
  ·exact⟨p,0,rfl,Nat.le_refl _⟩
  ·exact⟨_,cap,rfl,hm⟩
 ·exact⟨s.lt b hb,hd b (s.ZE b hb)⟩
theorem Im.nil (o:Ow) (n:Nat) (h:Hp) (p:Option Addr):Im o n h (.slice p 0 0) 0 []:=
 ⟨⟨p,0,rfl,by simp,fun Ys=>absurd rfl Ys⟩,⟨p,0,rfl,Nat.le_refl _⟩,fun b hb=>by cases p<;>simp[ZT]at hb⟩
def ImV (o:Ow) (h:Hp) (v:Value) (l:List Vt):Prop:=Im o 8 h v l.length (Zz Zm l)
def ImB (o:Ow) (h:Hp) (v:Value) (l:List Nat):Prop:=Im o 1 h v l.length (l.map bv)∧∀x∈l,x<256
theorem ImV.ts {o:Ow} {h:Hp} {v:Value} {l:List Vt} (s:ImV o h v l):Ts Zm 8 h v l:=⟨Im.sl s⟩
theorem ImB.bs {o:Ow} {h:Hp} {v:Value} {l:List Nat} (s:ImB o h v l):Bs h v l:=⟨s.1.sl,s.2⟩
theorem ImV.Zc {S:Tg→Prop} {o o':Ow} {h h':Hp} {v:Value} {l:List Vt} (s:ImV o h v l) (k:Kp S o h o' h'):ImV o' h' v l:=Im.Zc s k
theorem ImB.Zc {S:Tg→Prop} {o o':Ow} {h h':Hp} {v:Value} {l:List Nat} (s:ImB o h v l) (k:Kp S o h o' h'):ImB o' h' v l:=⟨s.1.Zc k,s.2⟩
def YX (l:Y6) (w:Value):List Value:=[.int .i64 l.kind,.int .i64 l.Jm,.int .i64 l.to,.int .i64 l.b.r,.int .i64 l.b.n,.int .i64 l.v.slot,.int .i64 l.v.b.r,.int .i64 l.v.b.n,.int .i64 l.v.k,.int .i64 l.v.c,.int .i64 l.v.s,.int .i64 l.v.nm,.int .i64 l.v.v,w]
def lwC (x:Y6 × Value):List Value:=YX x.1 x.2
def ZgZ (t:Tld):List Value:=[.int .i64 t.node,.int .i64 t.c,.int .i64 t.s,.int .i64 t.code,.int .i64 t.val]
def Zn (b:Nat):Value:=.pointer (some ⟨b,0,none⟩)
def cmA (x:Cm):Value:=.agg x.C.toArray
def QB (o:Ow) (t:Tg) (h:Hp) (v:Value) (l:List Cm):Prop:=YA o t 77 5 h v l.length (Zz J7.C l)
def QJ (o:Ow) (t:Tg) (h:Hp) (v:Value) (l:List Y6):Prop:=
 ∃xs:List (Y6 × Value),xs.map (·.1)=l∧YA o t 98 14 h v xs.length (Zz lwC xs)∧∀x∈xs,ImV o h x.2 x.1.vs
theorem QB.Zc {S:Tg→Prop} {o o':Ow} {t:Tg} {h h':Hp} {v:Value} {l:List Cm} (s:QB o t h v l) (k:Kp S o h o' h') (hn:¬S t):QB o' t h' v l:=YA.Zc s k hn
theorem QJ.Zc {S:Tg→Prop} {o o':Ow} {t:Tg} {h h':Hp} {v:Value} {l:List Y6} (s:QJ o t h v l) (k:Kp S o h o' h') (hn:¬S t):QJ o' t h' v l:=by
 obtain⟨xs,h1,h2,h3⟩:=s
 exact⟨xs,h1,h2.Zc k hn,fun x hx=>(h3 x hx).Zc k⟩
def Qo (o:Ow) (t:Tg) (h:Hp) (b:Nat) (l:List (Int × Value)):Prop:=o b=some t∧h[b]? = some (Xk l)
theorem Qo.Zc {S:Tg→Prop} {o o':Ow} {t:Tg} {h h':Hp} {b:Nat} {l:List (Int × Value)} (s:Qo o t h b l) (k:Kp S o h o' h') (hn:¬S t):Qo o' t h' b l:=by
 have hn':∀u,o b=some u→¬S u:=fun u hu=>by rw[s.1]at hu;cases hu;exact hn
 exact⟨by rw[k.own s.2 hn',s.1],k.get s.2 hn'⟩
def QK (o:Ow) (t:Tg) (h:Hp) (b:Nat) (x:Obj):Prop:=o b=some t∧h[b]? = some x
theorem QK.Zc {S:Tg→Prop} {o o':Ow} {t:Tg} {h h':Hp} {b:Nat} {x:Obj} (s:QK o t h b x) (k:Kp S o h o' h') (hn:¬S t):QK o' t h' b x:=by
 have hn':∀u,o b=some u→¬S u:=fun u hu=>by rw[s.1]at hu;cases hu;exact hn
 exact⟨by rw[k.own s.2 hn',s.1],k.get s.2 hn'⟩
def ZM (o:Ow) (h:Hp) (b:Nat) (x:Obj):Prop:=o b=none∧h[b]? = some x
theorem ZM.Zc {S:Tg→Prop} {o o':Ow} {h h':Hp} {b:Nat} {x:Obj} (s:ZM o h b x) (k:Kp S o h o' h'):ZM o' h' b x:=(k.free s.2 s.1).symm
def QW (o:Ow) (h:Hp) (pv:List (Int × Value)) (pr:List (Int × List Vt)):Prop:=Al2 (fun x y=>x.1=y.1∧ImV o h x.2 y.2) pv pr
theorem QW.Zc {S:Tg→Prop} {o o':Ow} {h h':Hp} {pv:List (Int × Value)} {pr:List (Int × List Vt)} (s:QW o h pv pr) (k:Kp S o h o' h'):QW o' h' pv pr:=by
 induction s with
 | nil=>exact .nil
 | cons a _ ih=>exact .cons ⟨a.1,a.2.Zc k⟩ ih
def unC (l:List (Int × Unit)):List (Int × Value):=Uo (fun _=>.agg #[]) l
def QL (o:Ow) (i:Nat) (h:Hp) (sv:List (Int × Nat)) (vt:List (Int × List (Int × Unit))):Prop:=Al2 (fun x y=>x.1=y.1∧Qo o (.Zbz i y.1) h x.2 (unC y.2)) sv vt
theorem QL.Zc {S:Tg→Prop} {o o':Ow} {i:Nat} {h h':Hp} {sv:List (Int × Nat)} {vt:List (Int × List (Int × Unit))} (s:QL o i h sv vt) (k:Kp S o h o' h') (hn:∀s,¬S (.Zbz i s)):QL o' i h' sv vt:=by
 induction s with
 | nil=>exact .nil
 | cons a _ ih=>exact .cons ⟨a.1,a.2.Zc k (hn _)⟩ ih
def mpV (b:Nat):Value:=.map (some b)
structure RA where
 rb:Nat
 pb:Nat
 qb:Nat
 vb:Nat
 pv:List (Int × Value)
 sv:List (Int × Nat)
def ZnD (r:Jg) (a:RA):List Value:=[.int .i64 r.b.r,.int .i64 r.b.n,.map (some a.pb),.bool r.begun,.map (some a.qb),.map (some a.vb)]
structure YH (o:Ow) (i:Nat) (h:Hp) (a:RA) (r:Jg):Prop where
 ZE:QK o (.Zh i) h a.rb (.cells (ZnD r a).toArray 122)
 prom:Qo o (.prom i) h a.pb a.pv
 Zb7:QW o h a.pv r.prom
 prop:Qo o (.prop i) h a.qb (Uo cmA r.prop)
 Xp:Qo o (.Xp i) h a.vb (Uo mpV a.sv)
 Za9:QL o i h a.sv r.Xp
 keys:(a.sv.map (·.1)).Nodup
def XD (i:Nat) (t:Tg):Prop:=t=.Zh i∨t=.prom i∨t=.prop i∨t=.Xp i∨∃s,t=.Zbz i s
theorem YH.Zc {S:Tg→Prop} {o o':Ow} {i:Nat} {h h':Hp} {a:RA} {r:Jg} (s:YH o i h a r) (k:Kp S o h o' h') (hn:∀t,XD i t→¬S t):YH o' i h' a r:=
 ⟨s.ZE.Zc k (hn _ (.inl rfl)),s.prom.Zc k (hn _ (.inr (.inl rfl))),s.Zb7.Zc k,s.prop.Zc k (hn _ (.inr (.inr (.inl rfl)))),s.Xp.Zc k (hn _ (.inr (.inr (.inr (.inl rfl))))),s.Za9.Zc k (fun s=>hn _ (.inr (.inr (.inr (.inr ⟨s,rfl⟩))))),s.keys⟩
def Zda:Option RA→Value
 | some a=>Zn a.rb
 | none=>.pointer none
def Zv1 (o:Ow) (i:Nat) (h:Hp):Option RA→Option Jg→Prop
 | some a,some r=>YH o i h a r
 | none,none=>True
 | _,_=>False
theorem Zv1.Zc {S:Tg→Prop} {o o':Ow} {i:Nat} {h h':Hp} {a:Option RA} {r:Option Jg} (s:Zv1 o i h a r) (k:Kp S o h o' h') (hn:∀t,XD i t→¬S t):Zv1 o' i h' a r:=by
 cases a<;>cases r<;>first|exact s|exact YH.Zc s k hn
def fnV (f:FuncId) (l:List Nat):Value:=.func (.func f) #[] (l.map Zn).toArray
def Ztz (o:Ow) (h:Hp) (wb nb:Nat) (v:Value) (to:Int) (b:Yw) (vs:List Vt):Prop:=
 ∃b3 b4 b5 b7 l w5 w,v=fnV 88 [b3,b4,b5,b7]∧ZM o h b3 (.cells [Zn wb].toArray 49)∧ZM o h b4 (.cells [Zn nb].toArray 56) ∧
  ZM o h b5 (.cells (YX l w5).toArray 98)∧l.Jm=to∧l.b=b∧ZM o h b7 (.cells [w].toArray 61)∧ImV o h w vs
def ZtA (o:Ow) (h:Hp) (wb nb:Nat) (v:Value) (to:Int) (x:Vt):Prop:=
 ∃b3 b4 b5 l w5,v=fnV 93 [b3,b4,b5]∧ZM o h b3 (.cells [Zn wb].toArray 49)∧ZM o h b4 (.cells [Zn nb].toArray 56) ∧
  ZM o h b5 (.cells (YX l w5).toArray 98)∧l.Jm=to∧l.v=x
theorem Ztz.Zc {S:Tg→Prop} {o o':Ow} {h h':Hp} {wb nb:Nat} {v:Value} {to:Int} {b:Yw} {vs:List Vt} (s:Ztz o h wb nb v to b vs) (k:Kp S o h o' h'):Ztz o' h' wb nb v to b vs:=by
 obtain⟨b3,b4,b5,b7,l,w5,w,h1,h2,h3,h4,h5,h6,h7,h8⟩:=s
 exact⟨b3,b4,b5,b7,l,w5,w,h1,h2.Zc k,h3.Zc k,h4.Zc k,h5,h6,h7.Zc k,h8.Zc k⟩
theorem ZtA.Zc {S:Tg→Prop} {o o':Ow} {h h':Hp} {wb nb:Nat} {v:Value} {to:Int} {x:Vt} (s:ZtA o h wb nb v to x) (k:Kp S o h o' h'):ZtA o' h' wb nb v to x:=by
 obtain⟨b3,b4,b5,l,w5,h1,h2,h3,h4,h5,h6⟩:=s
 exact⟨b3,b4,b5,l,w5,h1,h2.Zc k,h3.Zc k,h4.Zc k,h5,h6⟩
def Zb8 (o:Ow) (h:Hp) (b:Nat) (a:Qt):Prop:=∃w,ZM o h b (.cells (YI a.p w).toArray 63)∧ImV o h w a.l
theorem Zb8.Zc {S:Tg→Prop} {o o':Ow} {h h':Hp} {b:Nat} {a:Qt} (s:Zb8 o h b a) (k:Kp S o h o' h'):Zb8 o' h' b a:=by
 obtain⟨w,h1,h2⟩:=s
 exact⟨w,h1.Zc k,h2.Zc k⟩
def ZBp (o:Ow) (h:Hp) (i nb:Nat) (ra:Option RA) (v:Value) (a:Qt) (vs:List Vt) (cur:Bool):Prop:=
 ∃b6 b4 b7 b5 w rb,v=fnV 97 [b6,b4,b7,b5]∧Zb8 o h b6 a∧ZM o h b4 (.cells [Zn nb].toArray 56)∧ZM o h b7 (.cells [w].toArray 61)∧ImV o h w vs ∧
  ZM o h b5 (.cells [Zn rb].toArray 64) ∧
  (if cur=true then ∃a,ra=some a∧a.rb=rb else ∃cs pb pv,QK o (.Xb i) h rb (.cells cs 122)∧cs[2]? = some (.map (some pb))∧Qo o (.Xb i) h pb pv)
def Uj (o:Ow) (h:Hp) (wb i nb:Nat) (ra:Option RA):Value→Option Pnd→Prop
 | v,none=>v=.nilFunc
 | v,some (.pro a to b vs)=>∃b6 b4 b9 u,v=fnV 90 [b6,b4,b9]∧Zb8 o h b6 a∧ZM o h b4 (.cells [Zn nb].toArray 56)∧ZM o h b9 (.cells [u].toArray 1)∧Ztz o h wb nb u to b vs
 | v,some (.vot a to x)=>∃b6 b4 b9 u,v=fnV 96 [b6,b4,b9]∧Zb8 o h b6 a∧ZM o h b4 (.cells [Zn nb].toArray 56)∧ZM o h b9 (.cells [u].toArray 1)∧ZtA o h wb nb u to x
 | v,some (.own a vs cur)=>ZBp o h i nb ra v a vs cur
theorem Uj.Zc {S:Tg→Prop} {o o':Ow} {h h':Hp} {wb i nb:Nat} {ra:Option RA} {v:Value} {p:Option Pnd} (s:Uj o h wb i nb ra v p) (k:Kp S o h o' h') (hn:¬S (.Xb i)):Uj o' h' wb i nb ra v p:=by
 match p,s with
 | none,s=>exact s
 | some (.pro a to b vs),⟨b6,b4,b9,u,h1,h2,h3,h4,h5⟩=>exact⟨b6,b4,b9,u,h1,h2.Zc k,h3.Zc k,h4.Zc k,h5.Zc k⟩
 | some (.vot a to x),⟨b6,b4,b9,u,h1,h2,h3,h4,h5⟩=>exact⟨b6,b4,b9,u,h1,h2.Zc k,h3.Zc k,h4.Zc k,h5.Zc k⟩
 | some (.own a vs cur),⟨b6,b4,b7,b5,w,rb,h1,h2,h3,h4,h5,h6,h7⟩=>
  refine⟨b6,b4,b7,b5,w,rb,h1,h2.Zc k,h3.Zc k,h4.Zc k,h5.Zc k,h6.Zc k,?_⟩
  cases cur with
  | true=>exact h7
  | false=>
   obtain⟨cs,pb,pv,g1,g2,g3⟩:=h7
   exact⟨cs,pb,pv,g1.Zc k hn,g2,g3.Zc k hn⟩
structure NA where
 data:Value
 YM:Value
 Zh:Option RA
 known:Nat
 log:Value
 queue:Value
 waiting:Value
 inbox:Value
 Zy:Value
def Ur (n:Nd) (a:NA):List Value:=[.int .i64 n.me,.bool n.up,a.data,.int .i64 n.Y4,.int .i64 n.own.p.r,.int .i64 n.own.p.n,a.YM,.int .i64 n.heard.r,.int .i64 n.heard.n,Zda a.Zh,.map (some a.known),a.log]++(n.store++[a.queue,a.waiting,a.inbox,a.Zy,.int .i64 n.Xg])
def Xc (n:Nd) (a:NA):Obj:=.cells (Ur n a).toArray 74
structure Zd6 (cs:List Value):Prop where
 fit:Yt XY cs=true
 num:∀i,i<32→nth cs i=some (.int .i64 (ci cs i))
 yes:∀i,32≤i→i<40→nth cs i=some (.bool (cb cs i))
structure ZS (o:Ow) (h:Hp) (wb i nb:Nat) (a:NA) (n:Nd):Prop where
 data:ImB o h a.data n.data
 YM:ImV o h a.YM n.own.l
 Zh:Zv1 o i h a.Zh n.Zh
 known:Qo o (.known i) h a.known (Uo cmA n.known)
 log:QB o (.log i) h a.log n.log
 queue:QB o (.queue i) h a.queue n.queue
 waiting:QB o (.waiting i) h a.waiting n.waiting
 inbox:QJ o (.inbox i) h a.inbox n.inbox
 Zy:Uj o h wb i nb a.Zh a.Zy n.Zy
 store:Zd6 n.store
structure ZJ (o:Ow) (h:Hp) (wb i nb:Nat) (a:NA) (n:Nd):Prop where
 ZE:QK o (.node i) h nb (Xc n a)
 pt:ZS o h wb i nb a n
theorem ZeC {i:Nat} {t:Tg} (h:XD i t):t.of=some i:=by
 rcases h with rfl|rfl|rfl|rfl|⟨s,rfl⟩<;>rfl
section
variable {S:Tg→Prop} {o o':Ow} {h h':Hp} {wb i nb:Nat} {a:NA} {n:Nd}
theorem ZS.Zc (s:ZS o h wb i nb a n) (k:Kp S o h o' h') (hn:∀t,S t→t.of≠some i∨t=.node i):ZS o' h' wb i nb a n:=by
 have q:∀t:Tg,t.of=some i→t ≠ .node i→¬S t:=fun t ht Ys hs=>(hn t hs).elim (fun q=>q ht) Ys
 exact⟨s.data.Zc k,s.YM.Zc k,s.Zh.Zc k (fun t ht=>q t (ZeC ht) (by rcases ht with rfl|rfl|rfl|rfl|⟨z,rfl⟩<;>intro e<;>cases e)),s.known.Zc k (q _ rfl (by intro e;cases e)),s.log.Zc k (q _ rfl (by intro e;cases e)),s.queue.Zc k (q _ rfl (by intro e;cases e)),s.waiting.Zc k (q _ rfl (by intro e;cases e)),s.inbox.Zc k (q _ rfl (by intro e;cases e)),s.Zy.Zc k (q _ rfl (by intro e;cases e)),s.store⟩
theorem ZJ.Zc (s:ZJ o h wb i nb a n) (k:Kp S o h o' h') (hn:∀t,S t→t.of≠some i):ZJ o' h' wb i nb a n:=
 ⟨s.ZE.Zc k fun q=>hn _ q rfl,s.pt.Zc k fun t ht=>.inl (hn t ht)⟩
theorem ZS.put (s:ZS o h wb i nb a n) (d:Dom o h) {x:Obj} (b:QK o (.node i) h nb x):ZJ o (h.setIfInBounds nb (Xc n a)) wb i nb a n:=
 ⟨⟨b.1,Zu b.2⟩,s.Zc ((Kp.refl d (fun t=>t=.node i)).set b.1 rfl _) fun t ht=>.inr ht⟩
theorem ZS.write (s:ZS o h wb i nb a n) (d:Dom o h) {x:Obj} (b:QK o (.node i) h nb x) {e:Option Hp} (w:e=some (h.setIfInBounds nb (Xc n a))):∃g,e=some g∧ZJ o g wb i nb a n∧Kp (fun t=>t=.node i) o h o g:=
 ⟨_,w,s.put d b,(Kp.refl d (fun t=>t=.node i)).set b.1 rfl _⟩
theorem ZS.Ziw (s:ZS o h wb i nb a n) (k:Kp (fun t=>t=.queue i) o h o' h') {v:Value} {l:List Cm} (hv:QB o' (.queue i) h' v l):ZS o' h' wb i nb { a with queue:=v } { n with queue:=l }:=
 ⟨s.data.Zc k,s.YM.Zc k,s.Zh.Zc k (fun t ht=>by rcases ht with rfl|rfl|rfl|rfl|⟨z,rfl⟩<;>intro e<;>cases e),s.known.Zc k (by intro e;cases e),s.log.Zc k (by intro e;cases e),hv,s.waiting.Zc k (by intro e;cases e),s.inbox.Zc k (by intro e;cases e),s.Zy.Zc k (by intro e;cases e),s.store⟩
theorem ZS.Zv2 (s:ZS o h wb i nb a n) (k:Kp (fun t=>t=.log i) o h o' h') {v:Value} {l:List Cm} (hv:QB o' (.log i) h' v l):ZS o' h' wb i nb { a with log:=v } { n with log:=l }:=
 ⟨s.data.Zc k,s.YM.Zc k,s.Zh.Zc k (fun t ht=>by rcases ht with rfl|rfl|rfl|rfl|⟨z,rfl⟩<;>intro e<;>cases e),s.known.Zc k (by intro e;cases e),hv,s.queue.Zc k (by intro e;cases e),s.waiting.Zc k (by intro e;cases e),s.inbox.Zc k (by intro e;cases e),s.Zy.Zc k (by intro e;cases e),s.store⟩
theorem ZS.Zfh (s:ZS o h wb i nb a n) (k:Kp (fun t=>t=.waiting i) o h o' h') {v:Value} {l:List Cm} (hv:QB o' (.waiting i) h' v l):ZS o' h' wb i nb { a with waiting:=v } { n with waiting:=l }:=
 ⟨s.data.Zc k,s.YM.Zc k,s.Zh.Zc k (fun t ht=>by rcases ht with rfl|rfl|rfl|rfl|⟨z,rfl⟩<;>intro e<;>cases e),s.known.Zc k (by intro e;cases e),s.log.Zc k (by intro e;cases e),s.queue.Zc k (by intro e;cases e),hv,s.inbox.Zc k (by intro e;cases e),s.Zy.Zc k (by intro e;cases e),s.store⟩
theorem ZS.ZqD (s:ZS o h wb i nb a n) (k:Kp (fun t=>t=.inbox i) o h o' h') {v:Value} {l:List Y6} (hv:QJ o' (.inbox i) h' v l):ZS o' h' wb i nb { a with inbox:=v } { n with inbox:=l }:=
 ⟨s.data.Zc k,s.YM.Zc k,s.Zh.Zc k (fun t ht=>by rcases ht with rfl|rfl|rfl|rfl|⟨z,rfl⟩<;>intro e<;>cases e),s.known.Zc k (by intro e;cases e),s.log.Zc k (by intro e;cases e),s.queue.Zc k (by intro e;cases e),s.waiting.Zc k (by intro e;cases e),hv,s.Zy.Zc k (by intro e;cases e),s.store⟩
theorem ZS.ZqE (s:ZS o h wb i nb a n) (k:Kp (fun t=>t=.known i) o h o' h') {v:Nat} {l:List (Int × Cm)} (hv:Qo o' (.known i) h' v (Uo cmA l)):ZS o' h' wb i nb { a with known:=v } { n with known:=l }:=
 ⟨s.data.Zc k,s.YM.Zc k,s.Zh.Zc k (fun t ht=>by rcases ht with rfl|rfl|rfl|rfl|⟨z,rfl⟩<;>intro e<;>cases e),hv,s.log.Zc k (by intro e;cases e),s.queue.Zc k (by intro e;cases e),s.waiting.Zc k (by intro e;cases e),s.inbox.Zc k (by intro e;cases e),s.Zy.Zc k (by intro e;cases e),s.store⟩
theorem ZS.Qp (s:ZS o h wb i nb a n) (k:Kp (XD i) o h o' h') {ra ra':RA} {r':Jg} (hr:a.Zh=some ra) (hrb:ra'.rb=ra.rb) (hv:YH o' i h' ra' r'):ZS o' h' wb i nb { a with Zh:=some ra' } { n with Zh:=some r' }:=by
 have q:∀t,t.of=some i→(¬ ∃u,t=u∧XD i u)→¬XD i t:=fun t _ h2 h3=>h2 ⟨t,rfl,h3⟩
 have e:∀t:Tg,(t=.known i∨t=.log i∨t=.queue i∨t=.waiting i∨t=.inbox i∨t=.Xb i)→¬XD i t:=by
  intro t ht hr
  rcases ht with rfl|rfl|rfl|rfl|rfl|rfl<;>rcases hr with e|e|e|e|⟨s,e⟩<;>cases e
 refine⟨s.data.Zc k,s.YM.Zc k,hv,s.known.Zc k (e _ (by simp)),s.log.Zc k (e _ (by simp)),s.queue.Zc k (e _ (by simp)),s.waiting.Zc k (e _ (by simp)),s.inbox.Zc k (e _ (by simp)),?_,s.store⟩
 have hp:=s.Zy.Zc k (e _ (by simp))
 show Uj o' h' wb i nb (some ra') a.Zy n.Zy
 rw[hr]at hp
 match hn:n.Zy,hp with
 | none,hp=>exact hp
 | some (.pro _ _ _ _),hp=>exact hp
 | some (.vot _ _ _),hp=>exact hp
 | some (.own _ _ cur),⟨b6,b4,b7,b5,w,rb,h1,h2,h3,h4,h5,h6,h7⟩=>
  refine⟨b6,b4,b7,b5,w,rb,h1,h2,h3,h4,h5,h6,?_⟩
  cases cur with
  | false=>exact h7
  | true=>
   obtain⟨c,hc,hcr⟩:=h7
   obtain rfl:=Option.some.inj hc
   exact⟨ra',rfl,hrb.trans hcr⟩
end
structure WA where
 nodes:Value
 Zl:Value
 told:Value
def Y9 (bad:Nat→Int) (a:WA):List Value:=[a.nodes,a.Zl,.int .i64 0,.bool false,.bool false,.bool false,.bool false,.bool false,.slice none 0 0,.int .i64 (bad 0),.int .i64 (bad 1),.int .i64 (bad 2),.int .i64 (bad 3),.int .i64 (bad 4),a.told]
structure ZF (o:Ow) (h:Hp) (wb:Nat) (nb:Nat→Nat) (a:WA) (fl:List Y6) (bad:Nat→Int) (told:List Tld):Prop where
 ZE:QK o .world h wb (.cells (Y9 bad a).toArray 55)
 nodes:YA o .nodes 56 1 h a.nodes 5 [Zn (nb 0),Zn (nb 1),Zn (nb 2),Zn (nb 3),Zn (nb 4)]
 Zl:QJ o .Zl h a.Zl fl
 told:YA o .told 116 5 h a.told told.length (Zz ZgZ told)
theorem ZF.Zc {S:Tg→Prop} {o o':Ow} {h h':Hp} {wb:Nat} {nb:Nat→Nat} {a:WA} {fl:List Y6} {bad:Nat→Int} {told:List Tld} (s:ZF o h wb nb a fl bad told) (k:Kp S o h o' h') (hn:∀t,S t→t.of≠none):ZF o' h' wb nb a fl bad told:=
 ⟨s.ZE.Zc k fun q=>hn _ q rfl,s.nodes.Zc k fun q=>hn _ q rfl,s.Zl.Zc k fun q=>hn _ q rfl,s.told.Zc k fun q=>hn _ q rfl⟩
def J9 (t:Tg):Prop:=False
section
variable {S:Tg→Prop} {o o':Ow} {h h':Hp}
theorem ZB (d:Dom o h) (b:Zf h.size h h'):Kp J9 o h o h':=Kp.Zgl d b _
theorem ZC (k:Kp J9 o h o' h'):Kp S o h o' h':=k.mono fun _ q=>q.elim
theorem ZJ.still {wb i nb:Nat} {a:NA} {n:Nd} (s:ZJ o h wb i nb a n) (k:Kp J9 o h o' h'):ZJ o' h' wb i nb a n:=s.Zc k fun _ q=>q.elim
theorem ZF.still {wb:Nat} {nb:Nat→Nat} {a:WA} {fl:List Y6} {bad:Nat→Int} {told:List Tld} (s:ZF o h wb nb a fl bad told) (k:Kp J9 o h o' h'):ZF o' h' wb nb a fl bad told:=s.Zc k fun _ q=>q.elim
theorem ZV (d:Dom o h) (x:Obj):Kp J9 o h o (h.push x):=(Kp.refl d _).push x
end
structure Tbs (o:Ow) (h:Hp):Prop where
 tk:Tk h
 tn:Tab 0 niv ZbH h
 fk:o 1=none
 fn:o 0=none
theorem ZjC {S:Tg→Prop} {o o':Ow} {h h':Hp} {g:Nat} {f:Nat→Value} {l:List Nat} (t:Tab g f l h) (hf:o g=none) (k:Kp S o h o' h'):Tab g f l h'∧o' g=none:=by
 obtain⟨h1,h2⟩:=k.Zc g t.1 fun t ht=>by rw[hf]at ht;cases ht
 refine⟨⟨Nat.lt_of_lt_of_le t.1 k.size,fun i hi=>?_⟩,by rw[h2,hf]⟩
 have:=t.2 i hi
 unfold hc at this ⊢
 rw[h1];exact this
theorem Tbs.Zc {S:Tg→Prop} {o o':Ow} {h h':Hp} (t:Tbs o h) (k:Kp S o h o' h'):Tbs o' h':=
 ⟨(ZjC t.tk t.fk k).1,(ZjC t.tn t.fn k).1,(ZjC t.tk t.fk k).2,(ZjC t.tn t.fn k).2⟩
theorem Zd6.len {cs:List Value} (s:Zd6 cs):cs.length=40:=by
 have:=YL s.fit
 rw[this];rfl
theorem Zd6.one {cs:List Value} (s:Zd6 cs):cs.all Z8=true:=Zgf s.fit
theorem ZtB (a:Option RA):Z8 (Zda a)=true:=by cases a<;>rfl
section
variable {h:Hp} {nb:Nat} {n:Nd} {a:NA}
structure Zyw (h:Hp) (nb:Nat) (n:Nd) (a:NA):Prop where
 me:hc h ⟨nb,0,none⟩=some (.int .i64 n.me)
 up:hc h ⟨nb,1,none⟩=some (.bool n.up)
 tape:rd h ⟨nb,2,none⟩ 2=some [a.data,.int .i64 n.Y4]
 own:rd h ⟨nb,4,none⟩ 3=some [.int .i64 n.own.p.r,.int .i64 n.own.p.n,a.YM]
 Zll:rd h ⟨nb,4,none⟩ 2=some [.int .i64 n.own.p.r,.int .i64 n.own.p.n]
 ZGz:hc h ⟨nb,4,none⟩=some (.int .i64 n.own.p.r)
 ZLV:hc h ⟨nb,5,none⟩=some (.int .i64 n.own.p.n)
 YM:hc h ⟨nb,6,none⟩=some a.YM
 heard:rd h ⟨nb,7,none⟩ 2=some [.int .i64 n.heard.r,.int .i64 n.heard.n]
 Zyx:hc h ⟨nb,7,none⟩=some (.int .i64 n.heard.r)
 Zh:hc h ⟨nb,9,none⟩=some (Zda a.Zh)
 known:hc h ⟨nb,10,none⟩=some (.map (some a.known))
 log:hc h ⟨nb,11,none⟩=some a.log
 store:rd h ⟨nb,12,none⟩ 40=some n.store
 queue:hc h ⟨nb,52,none⟩=some a.queue
 waiting:hc h ⟨nb,53,none⟩=some a.waiting
 inbox:hc h ⟨nb,54,none⟩=some a.inbox
 Zy:hc h ⟨nb,55,none⟩=some a.Zy
 Xg:hc h ⟨nb,56,none⟩=some (.int .i64 n.Xg)
theorem Zix (hs:n.store.length=40):(Ur n a).length=57:=by
 unfold Ur
 rw[List.length_append,List.length_append,hs];rfl
theorem Zb9 (hs:n.store.length=40) (k:Nat):nth (Ur n a) (52+k)=nth [a.queue,a.waiting,a.inbox,a.Zy,.int .i64 n.Xg] k:=by
 unfold Ur
 rw[Yl,Yl,List.getElem?_append_right (by simp;omega),List.getElem?_append_right (by simp;omega)]
 congr 1
 simp
 omega
theorem Zw (H:h[nb]? = some (Xc n a)) (hs:n.store.length=40):Zyw h nb n a:=by
 have l57:=Zix (a:=a) hs
 have c:∀k,hc h ⟨nb,k,none⟩=nth (Ur n a) k:=fun k=>Zg H
 have r:∀k m,k+m≤57→rd h ⟨nb,k,none⟩ m=some (((Ur n a).drop k).take m):=fun k m hk=>Z4 H (by rw[l57];exact hk)
 refine⟨c 0,c 1,r 2 2 (by omega),r 4 3 (by omega),r 4 2 (by omega),c 4,c 5,c 6,r 7 2 (by omega),c 7,c 9,c 10,c 11,?_,(c 52).trans (Zb9 hs 0),(c 53).trans (Zb9 hs 1),(c 54).trans (Zb9 hs 2),(c 55).trans (Zb9 hs 3),(c 56).trans (Zb9 hs 4)⟩
 rw[r 12 40 (by omega)]
 congr 1
 unfold Ur
 rw[List.drop_append_of_le_length (by simp)]
 simp only[List.drop_succ_cons,List.drop_nil,List.drop_zero,List.nil_append]
 rw[←hs,List.take_left']
 rfl
structure Zyy (h:Hp) (nb:Nat) (n:Nd) (a:NA):Prop where
 up:∀v,Jp h ⟨nb,1,none⟩ (.bool v)=some (h.setIfInBounds nb (Xc { n with up:=v } a))
 tape:∀d s,Z8 d=true→wr h ⟨nb,2,none⟩ [d,.int .i64 s]=some (h.setIfInBounds nb (Xc { n with Y4:=s } { a with data:=d }))
 own:∀r k w,Z8 w=true→wr h ⟨nb,4,none⟩ [.int .i64 r,.int .i64 k,w]=some (h.setIfInBounds nb (Xc { n with own:=⟨⟨r,k⟩,n.own.l⟩ } { a with YM:=w }))
 heard:∀r k,wr h ⟨nb,7,none⟩ [.int .i64 r,.int .i64 k]=some (h.setIfInBounds nb (Xc { n with heard:=⟨r,k⟩ } a))
 Zh:∀b,Jp h ⟨nb,9,none⟩ (Zda b)=some (h.setIfInBounds nb (Xc n { a with Zh:=b }))
 log:∀v,Z8 v=true→Jp h ⟨nb,11,none⟩ v=some (h.setIfInBounds nb (Xc n { a with log:=v }))
 store:∀cs:List Value,cs.length=40→cs.all Z8=true→wr h ⟨nb,12,none⟩ cs=some (h.setIfInBounds nb (Xc { n with store:=cs } a))
 queue:∀v,Z8 v=true→Jp h ⟨nb,52,none⟩ v=some (h.setIfInBounds nb (Xc n { a with queue:=v }))
 waiting:∀v,Z8 v=true→Jp h ⟨nb,53,none⟩ v=some (h.setIfInBounds nb (Xc n { a with waiting:=v }))
 inbox:∀v,Z8 v=true→Jp h ⟨nb,54,none⟩ v=some (h.setIfInBounds nb (Xc n { a with inbox:=v }))
 Zy:∀v,Z8 v=true→Jp h ⟨nb,55,none⟩ v=some (h.setIfInBounds nb (Xc n { a with Zy:=v }))
 Xg:∀k,Jp h ⟨nb,56,none⟩ (.int .i64 k)=some (h.setIfInBounds nb (Xc { n with Xg:=k } a))
theorem set_tail (pre mid l:List Value) (k:Nat) (v:Value) (hk:pre.length+mid.length=52):(pre++(mid++l)).set (52+k) v=pre++(mid++l.set k v):=by
 rw[List.set_append_right _ _ (by omega),List.set_append_right _ _ (by omega)]
 congr 3
 omega
theorem YP (H:h[nb]? = some (Xc n a)) (hs:n.store.length=40):Zyy h nb n a:=by
 have l57:=Zix (a:=a) hs
 have w1:∀(k:Nat) (v:Value) (n':Nd) (a':NA),k<57→Z8 v=true→(Ur n a).set k v=Ur n' a'→Jp h ⟨nb,k,none⟩ v=some (h.setIfInBounds nb (Xc n' a')):=fun k v n' a' hk hv he=>by
  rw[Yu H,if_pos ⟨by rw[l57];exact hk,hv⟩,he];rfl
 have w:∀(k:Nat) (vs:List Value) (n':Nd) (a':NA),k+vs.length≤57→vs.all Z8=true→Yq (Ur n a) k vs=Ur n' a'→wr h ⟨nb,k,none⟩ vs=some (h.setIfInBounds nb (Xc n' a')):=fun k vs n' a' hk hv he=>by
  rw[ZQ H,if_pos ⟨by rw[l57];exact hk,hv⟩,he];rfl
 refine⟨fun v=>w1 _ _ _ _ (by omega) rfl rfl,fun d s hd=>w _ _ _ _ (by simp) (by rw[List.all_cons,hd];rfl) rfl,fun r k v hv=>w _ _ _ _ (by simp) (by simp only[List.all_cons,hv];rfl) rfl,fun r k=>w _ _ _ _ (by simp) (by simp[Z8]) rfl,fun b=>w1 _ _ _ _ (by omega) (ZtB b) rfl,fun v hv=>w1 _ _ _ _ (by omega) hv rfl,fun cs hl Xf=>w _ _ _ _ (by omega) Xf ?_,
  fun v hv=>w1 _ _ _ _ (by omega) hv ?_,fun v hv=>w1 _ _ _ _ (by omega) hv ?_,fun v hv=>w1 _ _ _ _ (by omega) hv ?_,fun v hv=>w1 _ _ _ _ (by omega) hv ?_,fun k=>w1 _ _ _ _ (by omega) rfl ?_⟩
 ·unfold Ur
  exact Zah rfl (by rw[hl,hs])
 all_goals
  unfold Ur
  first
   | exact set_tail _ _ _ 0 _ (by rw[hs];rfl)
   | exact set_tail _ _ _ 1 _ (by rw[hs];rfl)
   | exact set_tail _ _ _ 2 _ (by rw[hs];rfl)
   | exact set_tail _ _ _ 3 _ (by rw[hs];rfl)
   | exact set_tail _ _ _ 4 _ (by rw[hs];rfl)
end
section
variable {h:Hp} {wb:Nat} {bad:Nat→Int} {a:WA}
structure Zv3 (h:Hp) (wb:Nat) (bad:Nat→Int) (a:WA):Prop where
 nodes:hc h ⟨wb,0,none⟩=some a.nodes
 Zl:hc h ⟨wb,1,none⟩=some a.Zl
 told:hc h ⟨wb,14,none⟩=some a.told
 out:rd h ⟨wb,2,none⟩ 13=some [.int .i64 0,.bool false,.bool false,.bool false,.bool false,.bool false,.slice none 0 0,.int .i64 (bad 0),.int .i64 (bad 1),.int .i64 (bad 2),.int .i64 (bad 3),.int .i64 (bad 4),a.told]
 ZjD:∀v,Z8 v=true→Jp h ⟨wb,1,none⟩ v=some (h.setIfInBounds wb (.cells (Y9 bad { a with Zl:=v }).toArray 55))
 Zxd:∀v,Z8 v=true→Jp h ⟨wb,14,none⟩ v=some (h.setIfInBounds wb (.cells (Y9 bad { a with told:=v }).toArray 55))
 Zyz:∀v,Z8 v=true→Jp h ⟨wb,0,none⟩ v=some (h.setIfInBounds wb (.cells (Y9 bad { a with nodes:=v }).toArray 55))
theorem YY (H:h[wb]? = some (.cells (Y9 bad a).toArray 55)):Zv3 h wb bad a:=by
 refine⟨Zg H,Zg H,Zg H,Z4 H (by simp[Y9]),fun v hv=>?_,fun v hv=>?_,fun v hv=>?_⟩
 all_goals
  rw[Yu H,if_pos ⟨by simp[Y9],hv⟩]
  rfl
end
theorem Im.isSlice {o:Ow} {n:Nat} {h:Hp} {v:Value} {m:Nat} {cs:List Value} (s:Im o n h v m cs):∃p c,v=.slice p m c:=by
 obtain⟨p,c,h,_⟩:=s.fits;exact⟨p,c,h⟩
theorem Q9 {α:Type} (enc:α→List Value) (x:α):Zz enc [x]=enc x:=by simp[Zz]
def ZoF (t:Tg):Prop:=t=.world∨t=.Zl
theorem UA (T:World) (h:Hp) (o:Ow) (wb nb:Nat) (Z6:Nat→Nat) (me:Nat) (YE:WA) (fl:List Y6) (bad:Nat→Int) (told:List Tld) (to:Int) (l:Y6) (w:Value) (d:Dom o h)
  (W:ZF o h wb Z6 YE fl bad told) (hme:hc h ⟨nb,0,none⟩=some (.int .i64 me)) (hnb:nb<h.size) (iv:ImV o h w l.vs) (Yn:fl.length≤1000000000000) :
  Zd Tryz.prog T 70 #[Zn wb,Zn nb,.int .i64 to,.agg (YX l w).toArray] h fun v' h'=>∃o' Xq,Kp ZoF o h o' h'∧(∀b,b<h.size→o' b=o b)∧ZF o' h' wb Z6 Xq (fl++[⟨l.kind,me,to,l.b,l.v,l.vs⟩]) bad told:=by
 obtain⟨p,c,hw⟩:=iv.isSlice
 have Xf:Z8 w=true:=by rw[hw];rfl
 have hwb:=Za W.ZE.2
 have R0:=YY W.ZE.2
 refine Zd.Zi (args:=[_,_,_,_]) Tryz.func70 rfl rfl rfl rfl ?_
 unfold Zn YX
 have e1:nb≠h.size:=by omega
 have e2:wb≠h.size:=by omega
 simp -implicitDefEqProofs only[go_sem,↓reduceIte,Zcf,e1,hme]
 refine VS.z (h.size+1) [7,10] (.p 0 (.p 1 (.p 2 (.p 3 (.q 4 (.q 5 (.s 6 (.w 7 (.p 8 (.p 9 (.w 10 .nil))))))))))) mixed (by kernel_rfl) ?_
 simp -implicitDefEqProofs only[go_sem,↓reduceIte,Zcf,Zoh,e1,e2,hme,R0.Zl,hwb]
 obtain⟨h1,YF⟩:=Zx (h.push (.cells (YX ⟨l.kind,me,to,l.b,l.v,l.vs⟩ w).toArray 98):Hp)
 have s1:h1.size=h.size+1:=by rw[YF];simp
 obtain⟨h2,hh2⟩:=Zx (h1.push (.cells (YX ⟨l.kind,me,to,l.b,l.v,l.vs⟩ w).toArray 98):Hp)
 have ee:((h.push (.cells (YX ⟨l.kind,me,to,l.b,l.v,l.vs⟩ w).toArray 98)).push (.cells (YX ⟨l.kind,me,to,l.b,l.v,l.vs⟩ w).toArray 98))=h2:=by rw[hh2,YF]
 unfold YX at ee
 simp only at ee
 refine⟨Zf.push (by simp) _,?_⟩
 rw[ee]
 have k2:Kp (fun _=>False) o h o h2:=by rw[hh2,YF];exact ((Kp.refl d _).push _).push _
 have W2:=W.Zc k2 (fun _ q=>q.elim)
 have iv2:=iv.Zc k2
 obtain⟨xs,Qu,hx2,hx3⟩:=W2.Zl
 have hxl:xs.length=fl.length:=by rw[←Qu,List.length_map]
 have src:Sl 14 h2 (.slice (some ⟨h.size+1,0,none⟩) 1 1) 1 (YX ⟨l.kind,me,to,l.b,l.v,l.vs⟩ w):=by
  rw[hh2,←s1];exact Sl.made (by simp[YX]) 1
 refine Ju (E:=98) (n:=14) (bytes:=128) (k:=1) Zok Tryz.underlying53 ZxX Zvm rfl ZAr hx2 k2.ZU src (by rw[YX,List.all_eq_true];intro x hx;simp at hx;rcases hx with rfl|rfl|rfl|rfl|rfl|rfl|rfl|rfl|rfl|rfl|rfl|rfl|rfl|rfl<;>first|rfl|exact Xf) (by omega) (by omega) ?_
 intro v' o3 h3 w3 k3 q3
 have b3:=W2.ZE.Zc k3 (by intro q;cases q)
 have R3:=YY b3.2
 obtain⟨p3,c3,rfl,_⟩:=w3.isSlice
 have hw3:=Za b3.2
 have e3:=R3.ZjD (.slice p3 (xs.length+1) c3) rfl
 simp -implicitDefEqProofs only[go_sem,↓reduceIte,e3]
 have k4:Kp ZoF o h o3 h3:=(k2.mono fun _ q=>q.elim).trans (k3.mono fun u q=>.inr q)
 have k5:=k4.set b3.1 (.inl rfl) (.cells (Y9 bad { YE with Zl:=.slice p3 (xs.length+1) c3 }).toArray 55)
 have kk:Kp (fun u=>u=.world) o3 h3 o3 (h3.setIfInBounds wb (.cells (Y9 bad { YE with Zl:=.slice p3 (xs.length+1) c3 }).toArray 55)):=(Kp.refl k3.ZU (fun u=>u=.world)).set b3.1 rfl _
 refine⟨o3,{ YE with Zl:=.slice p3 (xs.length+1) c3 },k5,fun b hb=>q3 b (by have:=k2.size;omega),⟨b3.1,Zu b3.2⟩,(W2.nodes.Zc k3 (by intro q;cases q)).Zc kk (by intro q;cases q),⟨xs++[(⟨l.kind,me,to,l.b,l.v,l.vs⟩,w)],?_,?_,fun x hx=>?_⟩,(W2.told.Zc k3 (by intro q;cases q)).Zc kk (by intro q;cases q)⟩
 ·rw[List.map_append,Qu];rfl
 ·have:=w3.Zc kk (by intro q;cases q)
  rw[Yh,Q9,List.length_append]
  exact this
 ·rcases List.mem_append.1 hx with hx|hx
  ·exact ((hx3 x hx).Zc k3).Zc kk
  ·have:x=(⟨l.kind,me,to,l.b,l.v,l.vs⟩,w):=by simpa using hx
   subst this
   exact (iv2.Zc k3).Zc kk
@[go_sem] theorem ZGA (x:Cm):Yt [some .i64,some .i64,some .i64,some .i64,some .i64] x.C=true:=rfl
@[go_sem] theorem ZGB (x y:Cm):leq x.C y.C=decide (x=y):=by
 obtain⟨a,b,c,d,e⟩:=x
 obtain⟨a',b',c',d',e'⟩:=y
 unfold J7.C Qr
 rw[Bool.eq_iff_iff]
 simp[leq,ceq,J7.mk.injEq]
@[go_sem] theorem Zd7 (x:Cm):x.C.length=5:=rfl
@[go_sem] theorem ZtC (x:Cm):x.C.all Z8=true:=rfl
@[go_sem] theorem ZDh (x:Cm):Yq [.int .i64 0,.int .i64 0,.int .i64 0,.int .i64 0,.int .i64 0] 0 x.C=x.C:=rfl
theorem X7 {h:Hp} {v:Value} {l:List Cm} (s:Ts J7.C 5 h v l):∃p c,v=.slice p l.length c∧(l≠[]→∃b o,p=some ⟨b,o,none⟩∧b<h.size∧∀i (hi:i<l.length),rd h ⟨b,o+i*5,none⟩ 5=some (l[i]).C):=by
 obtain⟨p,c,hv,hh⟩:=s.open Zd7 (by decide)
 refine⟨p,c,hv,fun Ys=>?_⟩
 obtain⟨b,o,h1,h2,h3⟩:=hh Ys
 exact⟨b,o,h1,h2,fun i hi=>(h3 i hi).rd (by simp[J7.C,Qr]) rfl⟩
def Zba (l:List Cm) (x:Cm):Int:=if x∈l then (l.idxOf x:Int) else -1
theorem ZtD {l:List Cm} {x:Cm} {i:Nat} (hi:i<l.length) (he:l[i]=x) (hn:∀j (hj:j<l.length),j<i→l[j]≠x):l.idxOf x=i:=by
 have hx:x∈l:=he▸List.getElem_mem hi
 have h1:l.idxOf x<l.length:=List.idxOf_lt_length_of_mem hx
 have h2:l[l.idxOf x]=x:=List.getElem_idxOf h1
 rcases Nat.lt_trichotomy (l.idxOf x) i with h|h|h
 ·exact absurd h2 (hn _ h1 h)
 ·exact h
 ·have:=List.not_of_lt_findIdx (p:=(· == x)) (xs:=l) (i:=i) h
  simp[he]at this
theorem ZoG {l:List Cm} {x:Cm} {i:Nat} (hi:i<l.length) (he:l[i]=x) (hn:∀j (hj:j<l.length),j<i→l[j]≠x):Zba l x=i:=by
 unfold Zba
 rw[if_pos (he▸List.getElem_mem hi),ZtD hi he hn]
theorem Ziy {l:List Cm} {x:Cm} (hn:∀j (hj:j<l.length),l[j]≠x):Zba l x = -1:=by
 unfold Zba
 rw[if_neg fun hm=>by obtain⟨j,hj,he⟩:=List.getElem_of_mem hm;exact hn j hj he]
theorem Zd8 (l:List Cm) (x:Cm):0≤Zba l x↔x∈l:=by
 unfold Zba
 split
 ·rename_i h;exact⟨fun _=>h,fun _=>by omega⟩
 ·rename_i h;exact⟨fun q=>by omega,fun q=>absurd q h⟩
theorem Zg0 (T:World) (h:Hp) (v:Value) (l:List Cm) (x:Cm) (s:Ts J7.C 5 h v l) (hl:l.length≤4611686018427387904) :
  Zd Tryz.prog T 36 #[v,cmA x] h fun v' h'=>v'=.int .i64 (Zba l x)∧Zf h.size h h':=by
 obtain⟨p,c,rfl,YR⟩:=X7 s
 refine Zd.Zi (args:=[_,_]) Tryz.func36 rfl rfl rfl rfl ?_
 unfold cmA
 simp -implicitDefEqProofs only[go_sem,↓reduceIte]
 obtain⟨h1,YF⟩:=Zx (h.push (.cells x.C.toArray 77):Hp)
 have b1:Zf h.size h h1:=by rw[YF];exact Zf.push (Nat.le_refl _) _
 have x1:h1[h.size]? = some (.cells x.C.toArray 77):=by rw[YF];exact Zb
 rw[←YF]
 clear YF
 refine VS.ZW (fun F g=>g=h1∧F 0=.slice p l.length c∧F 3=.pointer (some ⟨h.size,0,none⟩)∧F 7=.int .i64 l.length∧∃i:Nat,i≤l.length∧F 8=.int .i64 i∧∀j (hj:j<l.length),j<i→l[j]≠x)
  (fun F _=>l.length-(vi (F 8)).toNat) rfl ⟨rfl,rfl,rfl,rfl,0,by omega,rfl,fun j hj q=>by omega⟩ ?_
 rintro F g ⟨rfl,f0,f3,f7,i,hi,f8,YU⟩
 by_cases ZD:i<l.length
 ·have ZL:(i:Int)<l.length:=by omega
  obtain⟨bb,oo,rfl,hbb,ZgC⟩:=YR (by intro e;rw[e]at ZD;simp at ZD)
  have r1:rd g ⟨bb,oo+i*5,none⟩ 5=some (l[i]).C:=by rw[JP b1 (by exact hbb)];exact ZgC i ZD
  have r0:rd g ⟨h.size,0,none⟩ 5=some x.C:=Zo x1 rfl
  simp -implicitDefEqProofs only[go_sem,↓reduceIte,f0,f3,f7,f8,ZL]
  refine VS.q mixed (by kernel_rfl) ?_
  simp -implicitDefEqProofs only[go_sem,↓reduceIte,f0,f3,f7,f8,ZL,r1,r0]
  by_cases q:l[i]=x
  ·have e:=ZoG ZD q YU
   rw[q]
   simp -implicitDefEqProofs only[go_sem,↓reduceIte,e,b1]
  ·have q':¬x=l[i]:=fun e=>q e.symm
   simp -implicitDefEqProofs only[go_sem,↓reduceIte,q',f0,f3,f7,f8]
   refine⟨⟨rfl,f0,f3,f7,i+1,ZD,rfl,fun j hj hji=>?_⟩,?_⟩
   ·by_cases e:j=i
    ·subst e;exact q
    ·exact YU j hj (by omega)
   ·simp only[vi,Zk,↓reduceIte,f8];omega
 ·have YK:¬(i:Int)<l.length:=by omega
  have e:=Ziy (l:=l) (x:=x) fun j hj=>YU j hj (by omega)
  simp -implicitDefEqProofs only[go_sem,↓reduceIte,f7,f8,YK,e,b1]
theorem ZaK (T:World) (h:Hp) (v:Value) (l:List Cm) (x:Cm) (s:Ts J7.C 5 h v l) (hl:l.length≤4611686018427387904) :
  Zd Tryz.prog T 39 #[v,cmA x] h fun v' h'=>v'=.bool (decide (x∈l))∧Zf h.size h h':=by
 obtain⟨p,c,rfl,YR⟩:=X7 s
 refine Zd.Zi (args:=[_,_]) Tryz.func39 rfl rfl rfl rfl ?_
 unfold cmA
 simp -implicitDefEqProofs only[go_sem,↓reduceIte]
 refine (Zg0 T _ _ l x (s.Z9 ((Zf.refl _ _).add _)) hl).use ?_
 rintro _ h2 ⟨rfl,b2⟩
 have b:Zf h.size h h2:=((Zf.refl _ _).add _).trans (b2.mono (by simp))
 simp -implicitDefEqProofs only[go_sem,↓reduceIte,Zd8,b]
theorem Ziz (T:World) (h:Hp) (b:Nat) (x y:Cm) (hb:h[b]? = some (.cells x.C.toArray 77)) :
  Zd Tryz.prog T 121 #[cmA y,Zn b] h fun v' h'=>v'=.bool (decide (y=x))∧Zf h.size h h':=by
 have ZD:=Za hb
 refine Zd.Zi (args:=[_,_]) Tryz.func121 rfl rfl rfl rfl ?_
 unfold cmA Zn
 have Ys:b≠h.size:=by omega
 have r0:rd (h.push (.cells y.C.toArray 77)) ⟨h.size,0,none⟩ 5=some y.C:=Zo Zb rfl
 have r1:rd (h.push (.cells y.C.toArray 77)) ⟨b,0,none⟩ 5=some x.C:=Zo (by rw[Zq ZD];exact hb) rfl
 simp -implicitDefEqProofs only[go_sem,↓reduceIte,r0,r1]
def Zfi (b:Nat):Value:=fnV 121 [b]
theorem Zg1 (T:World) (h:Hp) (v:Value) (l:List Cm) (b:Nat) (x:Cm) (s:Ts J7.C 5 h v l) (hb:h[b]? = some (.cells x.C.toArray 77)) (hl:l.length≤4611686018427387904) :
  Zd Tryz.prog T 123 #[v,Zfi b] h fun v' h'=>v'=.int .i64 (Zba l x)∧Zf h.size h h':=by
 obtain⟨p,c,rfl,YR⟩:=X7 s
 refine Zd.Zi (args:=[_,_]) Tryz.func123 rfl rfl rfl rfl ?_
 have ZD:=Za hb
 unfold Zfi fnV
 simp -implicitDefEqProofs only[go_sem,↓reduceIte]
 refine VS.ZW (fun F g=>Zf h.size h g∧F 0=.slice p l.length c∧F 1=Zfi b∧F 7=.int .i64 l.length∧∃i:Nat,i≤l.length∧F 8=.int .i64 i∧∀j (hj:j<l.length),j<i→l[j]≠x)
  (fun F _=>l.length-(vi (F 8)).toNat) rfl ⟨Zf.refl _ _,rfl,rfl,rfl,0,by omega,rfl,fun j hj q=>by omega⟩ ?_
 rintro F g ⟨hg,f0,f1,f7,i,hi,f8,YU⟩
 by_cases ZD:i<l.length
 ·have ZL:(i:Int)<l.length:=by omega
  obtain⟨bb,oo,rfl,hbb,ZgC⟩:=YR (by intro e;rw[e]at ZD;simp at ZD)
  have r1:rd g ⟨bb,oo+i*5,none⟩ 5=some (l[i]).C:=by rw[JP hg (by exact hbb)];exact ZgC i ZD
  unfold Zfi fnV at f1
  simp only[List.map]at f1
  simp -implicitDefEqProofs only[go_sem,↓reduceIte,f0,f1,f7,f8,ZL,r1]
  refine (Ziz T g b x l[i] (hg.get (by omega) hb)).use ?_
  rintro _ g1 ⟨rfl,b1⟩
  have hg1:Zf h.size h g1:=hg.trans (b1.mono hg.size)
  by_cases q:l[i]=x
  ·have e:=ZoG ZD q YU
   simp -implicitDefEqProofs only[go_sem,↓reduceIte,q,f8,e,hg1]
  ·simp -implicitDefEqProofs only[go_sem,↓reduceIte,q,f0,f1,f7,f8]
   refine⟨⟨hg1,f0,f1,f7,i+1,ZD,rfl,fun j hj hji=>?_⟩,?_⟩
   ·by_cases e:j=i
    ·subst e;exact q
    ·exact YU j hj (by omega)
   ·simp only[vi,Zk,↓reduceIte,f8];omega
 ·have YK:¬(i:Int)<l.length:=by omega
  have e:=Ziy (l:=l) (x:=x) fun j hj=>YU j hj (by omega)
  simp -implicitDefEqProofs only[go_sem,↓reduceIte,f7,f8,YK,e,hg]
theorem Zlm (T:World) (h:Hp) (o:Ow) (t:Tg) (v:Value) (m i:Nat) (cs:List Value) (s:YA o t 77 5 h v m cs) (d:Dom o h) (Xf:cs.all Z8=true) (hi:i<m) (hm:m≤4611686018427387904) :
  Zd Tryz.prog T 124 #[v,.int .i64 i,.int .i64 ((i:Int)+1)] h fun v' h'=>YA o t 77 5 h' v' (m-1) (cs.take (i*5)++cs.drop ((i+1)*5))∧Kp (fun u=>u=t) o h o h':=by
 rcases s with⟨⟨p,rfl⟩,rfl,rfl⟩|⟨b,off,cap,pre,spare,h1,rfl,h3,h4,h5,h6,h7⟩
 ·omega
 refine Zd.Zi (args:=[_,_,_]) Tryz.func124 rfl rfl rfl rfl ?_
 have e1:(i:Int)≤m:=by omega
 have e2:(i:Int)+1≤m:=by omega
 have e3:(m:Int)≤cap:=by omega
 have e4:(i:Int)≠i+1:=by omega
 have e5:((i:Int)+1).toNat=i+1:=by omega
 have e6:(0:Int)≤i+1:=by omega
 have e7:(i:Int)≤i+1:=by omega
 have e8:(i:Int)≤cap:=by omega
 have c0:cap≠0:=by omega
 simp -implicitDefEqProofs only[go_sem,↓reduceIte,e1,e2,e3,e4,e5,e6,e7,e8]
 refine VS.z (h.size) [6] (.p 0 (.p 1 (.p 2 (.p 3 (.p 4 (.p 5 (.w 6 (.p 7 .nil)))))))) mixed (by kernel_rfl) ?_
 simp -implicitDefEqProofs only[go_sem,↓reduceIte,e1,e2,e3,e4,e5,e6,e7,e8,c0]
 have hin:i*5≤m*5:=Nat.mul_le_mul_right _ (by omega)
 have ZGC:(i+1)*5≤m*5:=Nat.mul_le_mul_right _ (by omega)
 have hmc:m*5≤cap*5:=Nat.mul_le_mul_right _ h7
 have ZE:h[b]? = some (.cells (pre++(cs.take (i*5)++(cs.drop (i*5)++spare))).toArray 77 (0,0)):=by
  rw[←List.append_assoc (List.take _ _),List.take_append_drop];exact h3
 have src:Sl 5 h (.slice (if cap=i+1 then some ⟨b,off,none⟩ else some ⟨b,off+(i+1)*5,none⟩) (m-(i+1)) (cap-(i+1))) (m-(i+1)) (cs.drop ((i+1)*5)):=by
  have:=(YA.tail (k:=i+1) (.inr ⟨b,off,cap,pre,spare,h1,rfl,h3,h4,h5,h6,h7⟩:YA o t 77 5 h (.slice (some ⟨b,off,none⟩) m cap) m cs) (by omega)).sl
  rw[Option.map_some,YV]at this
  exact this
 have nl:(cs.drop ((i+1)*5)).length=(m-(i+1))*5:=by rw[List.length_drop,h5,Nat.sub_mul]
 refine Zgm (E:=77) (n:=5) (m:=i) (k:=m-(i+1)) (cs:=cs.take (i*5)) Zkn Tryz.underlying41 ZxW Zsu ZE h4.symm (by rw[List.length_take];omega) src (List.all_eq_true.2 fun x hx=>List.all_eq_true.1 Xf x (List.mem_of_mem_drop hx)) (by omega) (by rw[List.length_append,List.length_drop,h5,←Nat.sub_mul];have:(m-(i+1))*5≤(m-i)*5:=Nat.mul_le_mul_right _ (by omega);omega) ?_
 obtain⟨g,hg⟩:=Zx (h.setIfInBounds b (.cells (pre++((cs.take (i*5)++cs.drop ((i+1)*5))++(cs.drop (i*5)++spare).drop ((m-(i+1))*5))).toArray 77 (0,0)):Hp)
 rw[←hg]
 have kg:Kp (fun u=>u=t) o h o g:=by rw[hg];exact (Kp.refl d (fun u=>u=t)).set h1 rfl _
 have gb:=Zu (o:=.cells (pre++((cs.take (i*5)++cs.drop ((i+1)*5))++(cs.drop (i*5)++spare).drop ((m-(i+1))*5))).toArray 77 (0,0)) h3
 rw[←hg]at gb
 have e9:i+(m-(i+1))=m-1:=by omega
 have f1:((m-1:Nat):Int)≤m:=by omega
 have f2:(0:Int)≤((m-1:Nat):Int):=by omega
 have f3:cap≠m-1:=by omega
 have f4:(((m-1:Nat):Int)).toNat=m-1:=by omega
 have f5:(0:Int)≤m:=by omega
 have f6:((m-1:Nat):Int)≤cap:=by omega
 rw[e9]
 simp -implicitDefEqProofs only[go_sem,↓reduceIte,e3,f1,f2,f3,f4,f5,f6]
 have tl:((cs.drop (i*5)++spare).drop ((m-(i+1))*5)).length=5+spare.length:=by
  rw[List.length_drop,List.length_append,List.length_drop,h5]
  have:(m-(i+1))*5+5=m*5-i*5:=by rw[←Nat.sub_mul,←Nat.succ_mul];congr 1;omega
  omega
 obtain⟨tail,ht⟩:=Zx ((cs.drop (i*5)++spare).drop ((m-(i+1))*5))
 rw[←ht]at gb tl
 obtain⟨body,hbd⟩:=Zx (cs.take (i*5)++cs.drop ((i+1)*5))
 have bl:body.length=(m-1)*5:=by
  rw[hbd,List.length_append,List.length_take,nl,h5,Nat.min_eq_left hin,←Nat.add_mul];congr 1
 rw[←hbd]at gb ⊢
 have gb2:g[b]? = some (.cells ((pre++body)++(tail.take 5++tail.drop 5)).toArray 77 (0,0)):=by
  rw[List.take_append_drop,List.append_assoc];exact gb
 have e10:m-(m-1)=1:=by omega
 rw[e10]
 refine Zen (E:=77) (n:=5) (k:=1) Zkn Zsu rfl rfl gb2 (by rw[List.length_append,h4,bl]) (by rw[List.length_take];omega) ?_
 intro new Znx
 simp -implicitDefEqProofs only[go_sem,↓reduceIte]
 have kk:=kg.set h1 rfl (.cells ((pre++body)++(new++tail.drop 5)).toArray 77 (0,0))
 refine⟨.inr ⟨b,off,cap,pre,new++tail.drop 5,h1,rfl,?_,h4,bl,?_,by omega⟩,kk⟩
 ·rw[Zu gb2,List.append_assoc]
 ·rw[List.length_append,Znx,List.length_take,List.length_drop,tl,h6]
  have:(cap-(m-1))*5=(cap-m)*5+5:=by rw[←Nat.succ_mul];congr 1;omega
  omega
theorem Zln (T:World) (h:Hp) (o:Ow) (t:Tg) (v:Value) (m i:Nat) (cs:List Value) (s:YA o t 98 14 h v m cs) (d:Dom o h) (Xf:cs.all Z8=true) (hi:i<m) (hm:m≤4611686018427387904) :
  Zd Tryz.prog T 43 #[v,.int .i64 i,.int .i64 ((i:Int)+1)] h fun v' h'=>YA o t 98 14 h' v' (m-1) (cs.take (i*14)++cs.drop ((i+1)*14))∧Kp (fun u=>u=t) o h o h':=by
 rcases s with⟨⟨p,rfl⟩,rfl,rfl⟩|⟨b,off,cap,pre,spare,h1,rfl,h3,h4,h5,h6,h7⟩
 ·omega
 refine Zd.Zi (args:=[_,_,_]) Tryz.func43 rfl rfl rfl rfl ?_
 have e1:(i:Int)≤m:=by omega
 have e2:(i:Int)+1≤m:=by omega
 have e3:(m:Int)≤cap:=by omega
 have e4:(i:Int)≠i+1:=by omega
 have e5:((i:Int)+1).toNat=i+1:=by omega
 have e6:(0:Int)≤i+1:=by omega
 have e7:(i:Int)≤i+1:=by omega
 have e8:(i:Int)≤cap:=by omega
 have c0:cap≠0:=by omega
 simp -implicitDefEqProofs only[go_sem,↓reduceIte,e1,e2,e3,e4,e5,e6,e7,e8]
 refine VS.z (h.size) [6] (.p 0 (.p 1 (.p 2 (.p 3 (.p 4 (.p 5 (.w 6 (.p 7 .nil)))))))) mixed (by kernel_rfl) ?_
 simp -implicitDefEqProofs only[go_sem,↓reduceIte,e1,e2,e3,e4,e5,e6,e7,e8,c0]
 have hin:i*14≤m*14:=Nat.mul_le_mul_right _ (by omega)
 have ZGC:(i+1)*14≤m*14:=Nat.mul_le_mul_right _ (by omega)
 have hmc:m*14≤cap*14:=Nat.mul_le_mul_right _ h7
 have ZE:h[b]? = some (.cells (pre++(cs.take (i*14)++(cs.drop (i*14)++spare))).toArray 98 (0,0)):=by
  rw[←List.append_assoc (List.take _ _),List.take_append_drop];exact h3
 have src:Sl 14 h (.slice (if cap=i+1 then some ⟨b,off,none⟩ else some ⟨b,off+(i+1)*14,none⟩) (m-(i+1)) (cap-(i+1))) (m-(i+1)) (cs.drop ((i+1)*14)):=by
  have:=(YA.tail (k:=i+1) (.inr ⟨b,off,cap,pre,spare,h1,rfl,h3,h4,h5,h6,h7⟩:YA o t 98 14 h (.slice (some ⟨b,off,none⟩) m cap) m cs) (by omega)).sl
  rw[Option.map_some,YV]at this
  exact this
 have nl:(cs.drop ((i+1)*14)).length=(m-(i+1))*14:=by rw[List.length_drop,h5,Nat.sub_mul]
 refine Zgm (E:=98) (n:=14) (m:=i) (k:=m-(i+1)) (cs:=cs.take (i*14)) Zok Tryz.underlying53 ZxX Zvm ZE h4.symm (by rw[List.length_take];omega) src (List.all_eq_true.2 fun x hx=>List.all_eq_true.1 Xf x (List.mem_of_mem_drop hx)) (by omega) (by rw[List.length_append,List.length_drop,h5,←Nat.sub_mul];have:(m-(i+1))*14≤(m-i)*14:=Nat.mul_le_mul_right _ (by omega);omega) ?_
 obtain⟨g,hg⟩:=Zx (h.setIfInBounds b (.cells (pre++((cs.take (i*14)++cs.drop ((i+1)*14))++(cs.drop (i*14)++spare).drop ((m-(i+1))*14))).toArray 98 (0,0)):Hp)
 rw[←hg]
 have kg:Kp (fun u=>u=t) o h o g:=by rw[hg];exact (Kp.refl d (fun u=>u=t)).set h1 rfl _
 have gb:=Zu (o:=.cells (pre++((cs.take (i*14)++cs.drop ((i+1)*14))++(cs.drop (i*14)++spare).drop ((m-(i+1))*14))).toArray 98 (0,0)) h3
 rw[←hg]at gb
 have e9:i+(m-(i+1))=m-1:=by omega
 have f1:((m-1:Nat):Int)≤m:=by omega
 have f2:(0:Int)≤((m-1:Nat):Int):=by omega
 have f3:cap≠m-1:=by omega
 have f4:(((m-1:Nat):Int)).toNat=m-1:=by omega
 have f5:(0:Int)≤m:=by omega
 have f6:((m-1:Nat):Int)≤cap:=by omega
 rw[e9]
 simp -implicitDefEqProofs only[go_sem,↓reduceIte,e3,f1,f2,f3,f4,f5,f6]
 have tl:((cs.drop (i*14)++spare).drop ((m-(i+1))*14)).length=14+spare.length:=by
  rw[List.length_drop,List.length_append,List.length_drop,h5]
  have:(m-(i+1))*14+14=m*14-i*14:=by rw[←Nat.sub_mul,←Nat.succ_mul];congr 1;omega
  omega
 obtain⟨tail,ht⟩:=Zx ((cs.drop (i*14)++spare).drop ((m-(i+1))*14))
 rw[←ht]at gb tl
 obtain⟨body,hbd⟩:=Zx (cs.take (i*14)++cs.drop ((i+1)*14))
 have bl:body.length=(m-1)*14:=by
  rw[hbd,List.length_append,List.length_take,nl,h5,Nat.min_eq_left hin,←Nat.add_mul];congr 1
 rw[←hbd]at gb ⊢
 have gb2:g[b]? = some (.cells ((pre++body)++(tail.take 14++tail.drop 14)).toArray 98 (0,0)):=by
  rw[List.take_append_drop,List.append_assoc];exact gb
 have e10:m-(m-1)=1:=by omega
 rw[e10]
 refine Zen (E:=98) (n:=14) (k:=1) Zok Zvm rfl rfl gb2 (by rw[List.length_append,h4,bl]) (by rw[List.length_take];omega) ?_
 intro new Znx
 simp -implicitDefEqProofs only[go_sem,↓reduceIte]
 have kk:=kg.set h1 rfl (.cells ((pre++body)++(new++tail.drop 14)).toArray 98 (0,0))
 refine⟨.inr ⟨b,off,cap,pre,new++tail.drop 14,h1,rfl,?_,h4,bl,?_,by omega⟩,kk⟩
 ·rw[Zu gb2,List.append_assoc]
 ·rw[List.length_append,Znx,List.length_take,List.length_drop,tl,h6]
  have:(cap-(m-1))*14=(cap-m)*14+14:=by rw[←Nat.succ_mul];congr 1;omega
  omega
section
variable {α:Type} {enc:α→List Value} {n:Nat}
theorem Zbb (QM:∀x,(enc x).length=n) (l:List α) (i:Nat) (hi:i≤l.length):(Zz enc l).take (i*n)=Zz enc (l.take i):=by
 have h1:(Zz enc (l.take i)).length=i*n:=by rw[Jt QM,List.length_take,Nat.min_eq_left hi]
 have h2:Zz enc l=Zz enc (l.take i)++Zz enc (l.drop i):=by rw[←Yh,List.take_append_drop]
 rw[h2,←h1,List.take_left]
theorem Zbc (QM:∀x,(enc x).length=n) (l:List α) (i:Nat) (hi:i≤l.length):(Zz enc l).drop (i*n)=Zz enc (l.drop i):=by
 have h1:(Zz enc (l.take i)).length=i*n:=by rw[Jt QM,List.length_take,Nat.min_eq_left hi]
 have h2:Zz enc l=Zz enc (l.take i)++Zz enc (l.drop i):=by rw[←Yh,List.take_append_drop]
 rw[h2,←h1,List.drop_left]
theorem ZtE (QM:∀x,(enc x).length=n) (l:List α) (i:Nat) (hi:i<l.length) (y:α):Zz enc (l.set i y)=(Zz enc l).take (i*n)++(enc y++(Zz enc l).drop ((i+1)*n)):=by
 rw[List.set_eq_take_append_cons_drop,if_pos hi,Yh,Zbb QM _ _ (by omega),Zbc QM _ _ (by omega)]
 rfl
end
theorem Zv4 (l:List Cm):(Zz J7.C l).all Z8=true:=by
 induction l with
 | nil=>rfl
 | cons x l ih=>rw[Zz,List.all_append,ih];rfl
theorem ZaL {l:List Cm} {j:Nat} (hj:j<l.length) (q:Cm→Bool):(l.take (j+1)).filter q=(l.take j).filter q++if q l[j]=true then [l[j]] else []:=by
 rw[Yi l j hj,List.filter_append]
 congr 1
 cases h:q l[j]<;>simp[h]
theorem Zlo {l:List Cm} {x:Cm} {i:Nat} (h:Zba l x=i):i<l.length∧(l.take i).filter (fun y=>decide (y≠x))=l.take i∧l[i]? = some x:=by
 unfold Zba at h
 split at h
 ·rename_i hm
  have hi:l.idxOf x=i:=by omega
  have h1:l.idxOf x<l.length:=List.idxOf_lt_length_of_mem hm
  refine⟨by omega,?_,?_⟩
  ·rw[List.filter_eq_self]
   intro y hy
   obtain⟨k,hk,rfl⟩:=List.getElem_of_mem hy
   rw[List.length_take]at hk
   rw[List.getElem_take]
   have:=List.not_of_lt_findIdx (p:=(· == x)) (xs:=l) (i:=k) (show k<List.findIdx (· == x) l by rw[show List.findIdx (· == x) l=l.idxOf x from rfl];omega)
   simpa using this
  ·rw[←hi,List.getElem?_eq_getElem h1,List.getElem_idxOf h1]
 ·omega
theorem Zlp (T:World) (h:Hp) (o:Ow) (t:Tg) (v:Value) (l:List Cm) (bx:Nat) (x:Cm) (s:QB o t h v l) (d:Dom o h) (hb:ZM o h bx (.cells x.C.toArray 77)) (hl:l.length≤4611686018427387904) :
  Zd Tryz.prog T 122 #[v,Zfi bx] h fun v' h'=>QB o t h' v' (l.filter fun y=>decide (y≠x))∧Kp (fun u=>u=t) o h o h':=by
 have ts:Ts J7.C 5 h v l:=⟨s.sl⟩
 obtain⟨p,c,rfl,YR⟩:=X7 ts
 refine Zd.Zi (args:=[_,_]) Tryz.func122 rfl rfl rfl rfl ?_
 unfold Zfi fnV
 simp -implicitDefEqProofs only[go_sem,↓reduceIte]
 refine (Zg1 T h _ l bx x ts hb.2 hl).use ?_
 rintro _ h1 ⟨rfl,b1⟩
 have k1:Kp (fun u=>u=t) o h o h1:=Kp.Zgl d b1 _
 by_cases hm:x∈l
 case neg=>
  have e:Zba l x = -1:=by unfold Zba;rw[if_neg hm]
  have e2:(l.filter fun y=>decide (y≠x))=l:=by
   rw[List.filter_eq_self];intro y hy;simpa using fun q=>hm (by rw[←q];exact hy)
  simp -implicitDefEqProofs only[go_sem,↓reduceIte,e,e2]
  exact⟨QB.Zc (S:=fun _=>False) s (Kp.Zgl d b1 _) id,k1⟩
 obtain⟨i0,hi0⟩:∃i:Nat,Zba l x=i:=⟨l.idxOf x,by unfold Zba;rw[if_pos hm]⟩
 obtain⟨hi,hf,hx⟩:=Zlo hi0
 rcases s with⟨⟨q,h1'⟩,h2',h3'⟩|⟨b,off,cap,pre,spare,o1,hv,o3,o4,o5,o6,o7⟩
 ·omega
 simp only[Value.slice.injEq]at hv
 obtain⟨rfl,_,rfl⟩:=hv
 have i1:¬((i0:Nat):Int) = -1:=by omega
 simp -implicitDefEqProofs only[go_sem,↓reduceIte,hi0,i1]
 obtain⟨q,hq⟩:∃q:Cm→Bool,q=fun y=>decide ¬y=x:=⟨_,rfl⟩
 have hq':(fun y=>decide (y≠x))=q:=by rw[hq]
 have hqx:∀y,q y=decide ¬y=x:=fun y=>by rw[hq]
 rw[hq']at hf
 rw[←hq]
 have hil:l[i0]=x:=by rw[List.getElem?_eq_getElem hi]at hx;exact Option.some.inj hx
 have sl:l.length≤c:=o7
 have el:∀L:List Cm,(Zz J7.C L).length=L.length*5:=fun L=>Jt (n:=5) Zd7 L
 refine VS.ZW (fun F g=>F 0=.slice (some ⟨b,off,none⟩) l.length c∧F 1=Zfi bx∧Kp (fun u=>u=t) o h o g∧∃(i j:Nat) (L:List Cm),F 5=.int .i64 i∧F 6=.int .i64 j∧j≤l.length∧i<j∧L.length=l.length∧L.take i=(l.take j).filter q∧L.drop j=l.drop j∧i=((l.take j).filter q).length ∧
   g[b]? = some (.cells (pre++(Zz J7.C L++spare)).toArray 77 (0,0)))
  (fun F _=>l.length-(vi (F 6)).toNat) rfl ⟨rfl,rfl,k1,i0,i0+1,l,rfl,?_,by omega,by omega,rfl,?_,rfl,?_,b1.get (Za o3) o3⟩ ?_
 ·show Value.int .i64 _=_
  congr 1
 ·rw[ZaL hi,hf,hil,hqx,if_neg (by simp),List.append_nil]
 ·rw[ZaL hi,hf,hil,hqx,if_neg (by simp),List.append_nil,List.length_take];omega
 rintro F g ⟨f0,f1,kg,i,j,L,f5,f6,hj,hij,hL,hLi,hLj,hfi,gb⟩
 unfold Zfi fnV at f1
 simp only[List.map]at f1
 have gl:=Za gb
 by_cases ZD:j<l.length
 ·have ZL:(j:Int)<l.length:=by omega
  have hjL:L[j]? = l[j]?:=by
   have:=congrArg (fun z=>z[0]?) hLj
   simpa using this
  have hjl:j<L.length:=by omega
  have hjE:L[j]=l[j]:=by
   rw[List.getElem?_eq_getElem hjl,List.getElem?_eq_getElem ZD]at hjL
   exact Option.some.inj hjL
  have ow:YA o t 77 5 g (.slice (some ⟨b,off,none⟩) L.length c) L.length (Zz J7.C L):=.inr ⟨b,off,c,pre,spare,o1,rfl,gb,o4,el L,by rw[hL];exact o6,by omega⟩
  obtain⟨p2,c2,hv2,hc2⟩:=X7 (⟨ow.sl⟩:Ts J7.C 5 g _ L)
  obtain⟨bb,oo,hp2,_,hr⟩:=hc2 (by intro e;rw[e]at hjl;simp at hjl)
  subst hp2
  simp only[Value.slice.injEq,Option.some.injEq,Addr.mk.injEq]at hv2
  obtain⟨⟨rfl,rfl,_⟩,_,rfl⟩:=hv2
  have r1:rd g ⟨b,off+j*5,none⟩ 5=some (l[j]).C:=by rw[hr j hjl,hjE]
  simp -implicitDefEqProofs only[go_sem,↓reduceIte,f0,f1,f5,f6,ZL,r1]
  have bxg:=hb.Zc kg
  have bxl:bx≠g.size:=by have:=Za bxg.2;omega
  refine (Ziz T _ bx x l[j] (by rw[Zq (Za bxg.2)];exact bxg.2)).use ?_
  rintro _ g1 ⟨rfl,b1'⟩
  have bp:Zf g.size g g1:=(Zf.push (Nat.le_refl _) _).trans (b1'.mono (by simp))
  have kg1:Kp (fun u=>u=t) o h o g1:=kg.Z9 bp
  have gb1:=bp.get gl gb
  have ZGD:g1[g.size]? = some (.cells (l[j]).C.toArray 77):=b1'.get (by simp) Zb
  have yr:rd g1 ⟨g.size,0,none⟩ 5=some (l[j]).C:=Zo ZGD rfl
  have fs:=ZaL ZD q
  have hd1:∀L':List Cm,L'.drop j=l.drop j→L'.drop (j+1)=l.drop (j+1):=fun L' h=>by
   rw[←List.drop_drop,←List.drop_drop,h]
  by_cases hxj:l[j]=x
  ·have fs':(l.take (j+1)).filter q=(l.take j).filter q:=by rw[fs,hqx,if_neg (by simp[hxj]),List.append_nil]
   simp -implicitDefEqProofs only[go_sem,↓reduceIte,hxj,f0,f1,f5,f6]
   refine⟨⟨f0,f1,kg1,i,j+1,L,f5,rfl,ZD,by omega,hL,by rw[fs'];exact hLi,hd1 L hLj,by rw[fs'];exact hfi,gb1⟩,?_⟩
   simp only[vi,Zk,↓reduceIte,f6];omega
  ·have fs':(l.take (j+1)).filter q=(l.take j).filter q++[l[j]]:=by rw[fs,hqx,if_pos (by simp[hxj])]
   have i0':(0:Int)≤i:=by omega
   have i1':(i:Int)<l.length:=by omega
   have hiL:i<L.length:=by omega
   have w1:=ZQ gb1 (off+i*5) (l[j]).C
   have eL:Yq (pre++(Zz J7.C L++spare)) (off+i*5) (l[j]).C=pre++(Zz J7.C (L.set i l[j])++spare):=by
    have e1:Zz J7.C L=(Zz J7.C L).take (i*5)++(((Zz J7.C L).drop (i*5)).take 5++(Zz J7.C L).drop ((i+1)*5)):=by
     have:(Zz J7.C L).drop ((i+1)*5)=((Zz J7.C L).drop (i*5)).drop 5:=by rw[List.drop_drop];congr 1;omega
     rw[this,List.take_append_drop,List.take_append_drop]
    have hle:(i+1)*5≤(Zz J7.C L).length:=by rw[el];omega
    rw[ZtE Zd7 L i hiL]
    conv=>lhs;rw[e1]
    have e2:pre++(((Zz J7.C L).take (i*5)++(((Zz J7.C L).drop (i*5)).take 5++(Zz J7.C L).drop ((i+1)*5)))++spare)=(pre++(Zz J7.C L).take (i*5))++(((Zz J7.C L).drop (i*5)).take 5++((Zz J7.C L).drop ((i+1)*5)++spare)):=by simp only[List.append_assoc]
    rw[e2,Zah (by rw[List.length_append,o4,List.length_take];omega) (by rw[List.length_take,List.length_drop,Zd7];omega)]
    simp only[List.append_assoc]
   rw[eL,if_pos ⟨by rw[List.length_append,List.length_append,o4,el,Zd7];omega,ZtC _⟩]at w1
   simp -implicitDefEqProofs only[go_sem,↓reduceIte,hxj,f0,f1,f5,f6,yr,i0',i1',w1]
   refine⟨⟨f0,f1,kg1.set o1 rfl _,i+1,j+1,L.set i l[j],rfl,rfl,ZD,by omega,by rw[List.length_set,hL],?_,?_,?_,Zu gb1⟩,?_⟩
   ·rw[Yi _ i (by rw[List.length_set];exact hiL),List.take_set_of_le (Nat.le_refl _),List.getElem_set_self,fs',←hLi]
   ·refine hd1 _ ?_
    rw[←hLj,List.drop_set_of_lt (by omega)]
   ·rw[fs',List.length_append,←hfi];rfl
   ·simp only[vi,Zk,↓reduceIte,f6];omega
 ·have YK:¬(j:Int)<l.length:=by omega
  obtain rfl:j=l.length:=by omega
  rw[List.take_length]at hLi hfi
  have hiL:i≤L.length:=by omega
  have gb2:g[b]? = some (.cells ((pre++Zz J7.C (L.take i))++(Zz J7.C (L.drop i)++spare)).toArray 77 (0,0)):=by
   rw[←Zbb Zd7 L i hiL,←Zbc Zd7 L i hiL]
   have:(pre++(Zz J7.C L).take (i*5))++((Zz J7.C L).drop (i*5)++spare)=pre++(Zz J7.C L++spare):=by
    rw[List.append_assoc,←List.append_assoc (List.take _ _),List.take_append_drop]
   rw[this];exact gb
  have tl:(Zz J7.C (L.take i)).length=i*5:=by rw[el,List.length_take,Nat.min_eq_left hiL]
  simp -implicitDefEqProofs only[go_sem,↓reduceIte,f0,f5,f6,YK]
  refine Zen (E:=77) (n:=5) (k:=l.length-i) Zkn Zsu rfl rfl gb2 (by rw[List.length_append,o4,tl]) (by rw[el,List.length_drop,hL]) ?_
  intro new Znx
  have i2:(i:Int)≤c:=by omega
  simp -implicitDefEqProofs only[go_sem,↓reduceIte,i2,f0,f5]
  have e:(Zz J7.C (L.take i))=Zz J7.C (l.filter q):=by rw[hLi]
  refine⟨.inr ⟨b,off,c,pre,new++spare,o1,by rw[←hfi],?_,o4,el _,?_,by omega⟩,kg.set o1 rfl _⟩
  ·rw[Zu gb2,←e,List.append_assoc]
  ·rw[List.length_append,Znx,el,List.length_drop,o6,hL,←hfi,←Nat.add_mul];congr 1;omega
@[go_sem] theorem ZGE (x:Vt):Yt [some .i64,some .i64,some .i64,some .i64,some .i64,some .i64,some .i64,some .i64] (Zm x)=true:=rfl
@[go_sem] theorem ZGF (x y:Vt):leq (Zm x) (Zm y)=decide (x=y):=by
 obtain⟨a,⟨b,c⟩,d,e,f,g,k⟩:=x
 obtain⟨a',⟨b',c'⟩,d',e',f',g',k'⟩:=y
 unfold Zm
 rw[Bool.eq_iff_iff]
 simp[leq,ceq,Vt.mk.injEq,and_assoc]
@[go_sem] theorem ZDi (x:Yw):Yt [some .i64,some .i64] (X6 x)=true:=rfl
@[go_sem] theorem ZDj (x y:Yw):leq (X6 x) (X6 y)=decide (x=y):=by
 obtain⟨a,b⟩:=x
 obtain⟨a',b'⟩:=y
 unfold X6
 rw[Bool.eq_iff_iff]
 simp[leq,ceq,Yw.mk.injEq]
@[go_sem] theorem ZBq (x:Vt):(Zm x).length=8:=rfl
theorem Zg2 {h:Hp} {v:Value} {l:List Vt} (s:Ts Zm 8 h v l):∃p c,v=.slice p l.length c∧(l≠[]→∃b o,p=some ⟨b,o,none⟩∧b<h.size∧∀i (hi:i<l.length),rd h ⟨b,o+i*8,none⟩ 8=some (Zm l[i])):=by
 obtain⟨p,c,hv,hh⟩:=s.open ZBq (by decide)
 refine⟨p,c,hv,fun Ys=>?_⟩
 obtain⟨b,o,h1,h2,h3⟩:=hh Ys
 exact⟨b,o,h1,h2,fun i hi=>(h3 i hi).rd (by simp[Zm]) rfl⟩
theorem ZnE (T:World) (h:Hp) (v:Value) (l:List Vt) (x:Vt) (s:Ts Zm 8 h v l) (hl:l.length≤4611686018427387904) :
  Zd Tryz.prog T 125 #[v,.agg (Zm x).toArray] h fun v' h'=>(∃i:Int,v'=.int .i64 i∧(0≤i↔x∈l))∧Zf h.size h h':=by
 obtain⟨p,c,rfl,YR⟩:=Zg2 s
 refine Zd.Zi (args:=[_,_]) Tryz.func125 rfl rfl rfl rfl ?_
 simp -implicitDefEqProofs only[go_sem,↓reduceIte]
 obtain⟨h1,YF⟩:=Zx (h.push (.cells (Zm x).toArray 96):Hp)
 have b1:Zf h.size h h1:=by rw[YF];exact Zf.push (Nat.le_refl _) _
 have x1:h1[h.size]? = some (.cells (Zm x).toArray 96):=by rw[YF];exact Zb
 rw[←YF]
 clear YF
 refine VS.ZW (fun F g=>g=h1∧F 0=.slice p l.length c∧F 3=.pointer (some ⟨h.size,0,none⟩)∧F 7=.int .i64 l.length∧∃i:Nat,i≤l.length∧F 8=.int .i64 i∧∀j (hj:j<l.length),j<i→l[j]≠x)
  (fun F _=>l.length-(vi (F 8)).toNat) rfl ⟨rfl,rfl,rfl,rfl,0,by omega,rfl,fun j hj q=>by omega⟩ ?_
 rintro F g ⟨rfl,f0,f3,f7,i,hi,f8,YU⟩
 by_cases ZD:i<l.length
 ·have ZL:(i:Int)<l.length:=by omega
  obtain⟨bb,oo,rfl,hbb,ZgC⟩:=YR (by intro e;rw[e]at ZD;simp at ZD)
  have r1:rd g ⟨bb,oo+i*8,none⟩ 8=some (Zm l[i]):=by rw[JP b1 (by exact hbb)];exact ZgC i ZD
  have r0:rd g ⟨h.size,0,none⟩ 8=some (Zm x):=Zo x1 rfl
  simp -implicitDefEqProofs only[go_sem,↓reduceIte,f0,f3,f7,f8,ZL]
  refine VS.q mixed (by kernel_rfl) ?_
  simp -implicitDefEqProofs only[go_sem,↓reduceIte,f0,f3,f7,f8,ZL,r1,r0]
  by_cases q:l[i]=x
  ·rw[q]
   simp -implicitDefEqProofs only[go_sem,↓reduceIte,b1]
   exact⟨_,rfl,fun _=>q▸List.getElem_mem ZD,fun _=>by omega⟩
  ·have q':¬x=l[i]:=fun e=>q e.symm
   simp -implicitDefEqProofs only[go_sem,↓reduceIte,q',f0,f3,f7,f8]
   refine⟨⟨rfl,f0,f3,f7,i+1,ZD,rfl,fun j hj hji=>?_⟩,?_⟩
   ·by_cases e:j=i
    ·subst e;exact q
    ·exact YU j hj (by omega)
   ·simp only[vi,Zk,↓reduceIte,f8];omega
 ·have YK:¬(i:Int)<l.length:=by omega
  have hx:x ∉ l:=fun hm=>by obtain⟨j,hj,he⟩:=List.getElem_of_mem hm;exact YU j hj (by omega) he
  simp -implicitDefEqProofs only[go_sem,↓reduceIte,f7,f8,YK,b1,hx]
  exact⟨-1,rfl,fun q=>by omega,fun q=>q.elim⟩
theorem ZhO (T:World) (h:Hp) (v:Value) (l:List Vt) (x:Vt) (s:Ts Zm 8 h v l) (hl:l.length≤4611686018427387904) :
  Zd Tryz.prog T 94 #[v,.agg (Zm x).toArray] h fun v' h'=>v'=.bool (decide (x∈l))∧Zf h.size h h':=by
 obtain⟨p,c,rfl,YR⟩:=Zg2 s
 refine Zd.Zi (args:=[_,_]) Tryz.func94 rfl rfl rfl rfl ?_
 simp -implicitDefEqProofs only[go_sem,↓reduceIte]
 refine (ZnE T _ _ l x (s.Z9 ((Zf.refl _ _).add _)) hl).use ?_
 rintro _ h2 ⟨⟨i,rfl,hi⟩,b2⟩
 have b:Zf h.size h h2:=((Zf.refl _ _).add _).trans (b2.mono (by simp))
 simp -implicitDefEqProofs only[go_sem,↓reduceIte,hi,b]
theorem Zd9 (T:World) (h:Hp) (a b:Yw):Zd Tryz.prog T 68 #[.agg (X6 a).toArray,.agg (X6 b).toArray] h fun v' h'=>v'=.bool (decide (below b a))∧Zf h.size h h':=by
 refine Zd.Zi (args:=[_,_]) Tryz.func68 rfl rfl rfl rfl ?_
 unfold X6
 by_cases q1:b.r<a.r
 ·have e:below b a:=.inl q1
  simp -implicitDefEqProofs only[go_sem,↓reduceIte,q1,e]
  (repeat' (first|exact Zf.refl _ _|assumption|refine Zf.add ?_ _|refine Zf.Zj ?_ (by first|omega|(simp;omega)) _|refine Zf.trans (by assumption) ?_))
 ·by_cases q2:a.r=b.r
  ·by_cases q3:b.n<a.n
   ·have e:below b a:=.inr ⟨q2.symm,q3⟩
    simp -implicitDefEqProofs only[go_sem,↓reduceIte,q1,q2,q3,e]
    (repeat' (first|exact Zf.refl _ _|assumption|refine Zf.add ?_ _|refine Zf.Zj ?_ (by first|omega|(simp;omega)) _|refine Zf.trans (by assumption) ?_))
   ·have e:¬below b a:=fun h=>by rcases h with h|⟨_,h⟩<;>omega
    simp -implicitDefEqProofs only[go_sem,↓reduceIte,q1,q2,q3,e]
    (repeat' (first|exact Zf.refl _ _|assumption|refine Zf.add ?_ _|refine Zf.Zj ?_ (by first|omega|(simp;omega)) _|refine Zf.trans (by assumption) ?_))
  ·have e:¬below b a:=fun h=>by rcases h with h|⟨h,_⟩<;>omega
   simp -implicitDefEqProofs only[go_sem,↓reduceIte,q1,q2,e]
   (repeat' (first|exact Zf.refl _ _|assumption|refine Zf.add ?_ _|refine Zf.Zj ?_ (by first|omega|(simp;omega)) _|refine Zf.trans (by assumption) ?_))
theorem ZfN (T:World) (h:Hp) (n:Nat) (hn:n≤1000000000000):Zd Tryz.prog T 91 #[.int .i64 n] h fun v' h'=>v'=.bool (decide (5<2*n))∧h'=h:=by
 refine Zd.Zi (args:=[_]) Tryz.func91 rfl rfl rfl rfl ?_
 have e:((5:Int)<2*(n:Int))=(5<2*n):=by apply propext;omega
 simp -implicitDefEqProofs only[go_sem,↓reduceIte,e]
theorem QB.ts {o:Ow} {t:Tg} {h:Hp} {v:Value} {l:List Cm} (s:QB o t h v l):Ts J7.C 5 h v l:=⟨YA.sl s⟩
theorem ZeD {T:World} {K:Value→Hp→Prop} {ty:TypeId} {o:Ow} {t:Tg} {h:Hp} {v:Value} {l:List Cm} {x:Cm} {bx:Nat} {cb:Array Bool} (s:QB o t h v l) (d:Dom o h) (hb:h[bx]? = some (.cells x.C.toArray 77)) (hr:l.length≤1000000000000)
  (H:∀p c o' h',QB o' t h' (.slice p (l.length+1) c) (l++[x])→Kp (fun u=>u=t) o h o' h'→K (.slice p (l.length+1) c) h') :
  vBi Tryz.prog T .append #[41,41] ty cb [v,.slice (some ⟨bx,0,none⟩) 1 1] K h:=by
 have src:Sl 5 h (.slice (some ⟨bx,0,none⟩) 1 1) 1 x.C:=⟨_,1,rfl,rfl,fun _=>⟨bx,0,rfl,fun i hi=>by
  rw[Zg hb,Yl,Nat.zero_add];exact List.getElem?_eq_getElem hi⟩⟩
 refine Ju (E:=77) (n:=5) (bytes:=40) (k:=1) Zkn Tryz.underlying41 ZxW Zsu rfl ZAq s d src (ZtC x) (by omega) (by omega) ?_
 intro v' o' h' w k _
 obtain⟨p,c,rfl,_⟩:=w.isSlice
 refine H p c o' h' ?_ k
 unfold QB
 rw[Yh,Q9,List.length_append]
 exact w
def ZyA (i:Nat) (t:Tg):Prop:=t=.node i∨t=.queue i
theorem ZtF (T:World) (h:Hp) (o:Ow) (wb i nb:Nat) (a:NA) (n:Nd) (x:Cm) (d:Dom o h) (N:ZJ o h wb i nb a n) (hq:n.queue.length≤1000000000000) (hl:n.log.length≤1000000000000) :
  Zd Tryz.prog T 38 #[Zn nb,cmA x] h fun v' h'=>∃o' a',Kp (ZyA i) o h o' h'∧ZJ o' h' wb i nb a' (add n x):=by
 have hnb:=Za N.ZE.2
 have R:=Zw N.ZE.2 N.pt.store.len
 refine Zd.Zi (args:=[_,_]) Tryz.func38 rfl rfl rfl rfl ?_
 unfold Zn cmA
 have e1:nb≠h.size:=by omega
 simp -implicitDefEqProofs only[go_sem,↓reduceIte]
 obtain⟨h1,YF⟩:=Zx (h.push (.cells x.C.toArray 77):Hp)
 have k1:Kp J9 o h o h1:=by rw[YF];exact ZV d _
 have x1:ZM o h1 h.size (.cells x.C.toArray 77):=⟨d _ (Nat.le_refl _),by rw[YF];exact Zb⟩
 rw[←YF]
 have N1:=N.still k1
 clear YF
 have R1:=Zw N1.ZE.2 N1.pt.store.len
 have JE:=Za N1.ZE.2
 have hs1:=Za x1.2
 have r1:rd h1 ⟨h.size,0,none⟩ 5=some x.C:=Zo x1.2 rfl
 refine VS.z (h1.size) [13] (.p 0 (.p 1 (.p 2 (.q 3 (.q 4 (.s 5 (.p 6 (.p 7 (.p 8 (.p 9 (.p 10 (.q 11 (.q 12 (.w 13 (.p 14 (.p 15 .nil)))))))))))))))) mixed (by kernel_rfl) ?_
 simp -implicitDefEqProofs only[go_sem,↓reduceIte,R1.queue,JE,r1,hs1]
 refine (ZaK T h1 _ n.queue x N1.pt.queue.ts (by omega)).use ?_
 rintro _ h2 ⟨rfl,b2⟩
 by_cases q1:x∈n.queue
 ·have e:add n x=n:=by unfold add;rw[if_pos (.inl q1)]
  simp -implicitDefEqProofs only[go_sem,↓reduceIte,q1,b2,e]
  exact⟨o,a,(ZC k1).Z9 b2,N1.still (ZB k1.ZU b2)⟩
 simp -implicitDefEqProofs only[go_sem,↓reduceIte,q1,b2,R1.log,JE,r1,hs1]
 have k2:=ZB k1.ZU b2
 refine (ZaK T h2 _ n.log x (N1.still k2).pt.log.ts (by omega)).use ?_
 rintro _ h3 ⟨rfl,b3⟩
 have b13:Zf h1.size h1 h3:=b2.trans (b3.mono b2.size)
 have k3:=ZB k1.ZU b13
 by_cases q2:x∈n.log
 ·have e:add n x=n:=by unfold add;rw[if_pos (.inr q2)]
  simp -implicitDefEqProofs only[go_sem,↓reduceIte,q2,b13,e]
  exact⟨o,a,(ZC k1).Z9 b13,N1.still k3⟩
 have e:add n x = { n with queue:=n.queue++[x] }:=by unfold add;rw[if_neg (fun q=>q.elim q1 q2)]
 simp -implicitDefEqProofs only[go_sem,↓reduceIte,q2,b13,e]
 have N3:=N1.still k3
 have x3:=x1.Zc k3
 have R3:=Zw N3.ZE.2 N3.pt.store.len
 have Zdb:=Za N3.ZE.2
 have hs3:=Za x3.2
 have r3:rd h3 ⟨h.size,0,none⟩ 5=some x.C:=Zo x3.2 rfl
 refine VS.z (h3.size) [7,10] (.p 0 (.p 1 (.p 2 (.p 3 (.q 4 (.q 5 (.s 6 (.w 7 (.p 8 (.p 9 (.w 10 .nil))))))))))) mixed (by kernel_rfl) ?_
 simp -implicitDefEqProofs only[go_sem,↓reduceIte,R3.queue,Zdb,r3,hs3]
 have k4:=ZV k3.ZU (.cells x.C.toArray 77)
 have N4:=N3.still k4
 refine ZeD (l:=n.queue) N4.pt.queue k4.ZU Zb hq ?_
 intro p c o5 h5 w5 k5
 have b5:=N4.ZE.Zc k5 (by intro e;cases e)
 have W5:=YP b5.2 N4.pt.store.len
 have w:=W5.queue (.slice p (n.queue.length+1) c) rfl
 simp -implicitDefEqProofs only[go_sem,↓reduceIte,w]
 exact⟨o5,_,(((ZC k1).Z9 b13).push _).trans (k5.mono fun u q=>.inr q) |>.set b5.1 (.inl rfl) _,(N4.pt.Ziw k5 w5).put k5.ZU b5⟩
def QC (i:Nat) (t:Tg):Prop:=t=.world∨t=.told∨t=.node i∨t=.known i∨t=.log i∨t=.queue i∨t=.waiting i
theorem ZtG {β:Type}:∀(l:List (Int × β)) (ks:List Int),ks.Nodup→(∀k∈ks,(Yp l k).isSome=true)→ks.length≤l.length:=by
 intro l
 induction l with
 | nil=>
  intro ks _ h
  cases ks with
  | nil=>simp
  | cons k ks=>have:=h k (by simp);simp[Yp]at this
 | cons x l ih=>
  intro ks hn h
  obtain⟨a,v⟩:=x
  have h1:(ks.erase a).length≤l.length:=ih _ (hn.erase a) fun k hk=>by
   have hk':=(List.Nodup.mem_erase_iff hn).1 hk
   have:=h k hk'.2
   unfold Yp at this
   rw[if_neg (fun e=>hk'.1 e.symm)]at this
   exact this
  have h2:ks.length≤(ks.erase a).length+1:=by
   rw[List.length_erase];split<;>omega
  simp only[List.length_cons];omega
theorem Zlq {β:Type} (l:List (Int × β)) (a m:Nat) (h:∀j,j<m→(Yp l ((a+j:Nat):Int)).isSome=true):m≤l.length:=by
 have:=ZtG l ((List.range m).map fun j=>((a+j:Nat):Int)) ?_ ?_
 ·simpa using this
 ·rw[List.nodup_iff_pairwise_ne,List.pairwise_map]
  exact (List.nodup_range (n:=m)).imp fun {x y} hxy he=>hxy (by omega)
 ·intro k hk
  simp only[List.mem_map,List.mem_range]at hk
  obtain⟨j,hj,rfl⟩:=hk
  exact h j hj
theorem ZoH (T:World) (h:Hp) (cs:List Value) (s:Zd6 cs) (x:Cm):Zd Tryz.prog T 37 #[.agg cs.toArray,cmA x] h fun v' h'=>v'=.tuple #[.agg (ZjB cs x).toArray,.agg #[.int .i64 (Zc6 cs x),.int .i64 (ZgV cs x)],.int .i64 (Zd3 cs x)]∧Zf h.size h h':=by
 refine (Znb T h cs x.k x.c x.s x.n x.v s.fit s.num s.yes).mono ?_
 rintro v' h' ⟨H,b⟩
 refine⟨?_,b⟩
 rw[H]
 unfold doL ZjB Zc6 ZgV Zd3 Za5
 by_cases e:Ze4 cs x.k x.c x.s x.n x.v=0
 ·rw[if_pos e,if_pos e,if_pos e,if_pos e,e]
 ·rw[if_neg e,if_neg e,if_neg e,if_neg e]
theorem Zd6.ZtH {cs:List Value} (h:Yt XY cs=true):Zd6 cs:=⟨h,Znt h,Zlc h⟩
theorem Zd6.do {cs:List Value} (s:Zd6 cs) (x:Cm):Zd6 (ZjB cs x):=by
 obtain⟨D,a,b,h1,h2,_⟩:=ZvU s.fit x
 refine Zd6.ZtH ?_
 unfold doL at h1
 unfold ZjB Zd3 Za5
 by_cases e:Ze4 cs x.k x.c x.s x.n x.v=0
 ·rw[if_pos e]at h1 ⊢
  simp only[List.cons.injEq,Value.agg.injEq,Array.mk.injEq]at h1
  rw[h1.1];exact h2
 ·rw[if_neg e]at h1 ⊢
  simp only[List.cons.injEq,Value.agg.injEq,Array.mk.injEq]at h1
  rw[h1.1];exact h2
theorem Zfj {T:World} {K:Value→Hp→Prop} {ty:TypeId} {o:Ow} {t:Tg} {h:Hp} {v:Value} {l:List Tld} {x:Tld} {bx:Nat} {cb:Array Bool} (s:YA o t 116 5 h v l.length (Zz ZgZ l)) (d:Dom o h) (hb:h[bx]? = some (.cells (ZgZ x).toArray 116)) (hr:l.length≤1000000000000)
  (H:∀p c o' h',YA o' t 116 5 h' (.slice p (l.length+1) c) (l++[x]).length (Zz ZgZ (l++[x]))→Kp (fun u=>u=t) o h o' h'→K (.slice p (l.length+1) c) h') :
  vBi Tryz.prog T .append #[27,27] ty cb [v,.slice (some ⟨bx,0,none⟩) 1 1] K h:=by
 have src:Sl 5 h (.slice (some ⟨bx,0,none⟩) 1 1) 1 (ZgZ x):=⟨_,1,rfl,rfl,fun _=>⟨bx,0,rfl,fun i hi=>by
  rw[Zg hb,Yl,Nat.zero_add];exact List.getElem?_eq_getElem hi⟩⟩
 refine Ju (E:=116) (n:=5) (bytes:=40) (k:=1) ZAn Tryz.underlying27 ZAs ZAu rfl ZAt s d src rfl (by omega) (by omega) ?_
 intro v' o' h' w k _
 obtain⟨p,c,rfl,_⟩:=w.isSlice
 refine H p c o' h' ?_ k
 rw[Yh,Q9,List.length_append]
 exact w
theorem ZF.ZoI {o o1:Ow} {h h1:Hp} {wb:Nat} {nb:Nat→Nat} {a:WA} {fl:List Y6} {bad:Nat→Int} {told ZtI:List Tld} {v:Value} (W:ZF o h wb nb a fl bad told) (k:Kp (fun t=>t=.told) o h o1 h1)
  (hv:YA o1 .told 116 5 h1 v ZtI.length (Zz ZgZ ZtI)) {e:Option Hp} (w:e=some (h1.setIfInBounds wb (.cells (Y9 bad { a with told:=v }).toArray 55))) :
  ∃g,e=some g∧ZF o1 g wb nb { a with told:=v } fl bad ZtI∧Kp (fun t=>t=.world) o1 h1 o1 g:=by
 have b:=W.ZE.Zc k (by intro e;cases e)
 have kk:Kp (fun t=>t=.world) o1 h1 o1 (h1.setIfInBounds wb (.cells (Y9 bad { a with told:=v }).toArray 55)):=(Kp.refl k.ZU (fun t=>t=.world)).set b.1 rfl _
 exact⟨_,w,⟨⟨b.1,Zu b.2⟩,(W.nodes.Zc k (by intro e;cases e)).Zc kk (by intro e;cases e),(W.Zl.Zc k (by intro e;cases e)).Zc kk (by intro e;cases e),hv.Zc kk (by intro e;cases e)⟩,kk⟩
def ZoJ:Option Value→Nat
 | some (.slice _ l _)=>l
 | _=>0
set_option maxHeartbeats 1000000 in
theorem Zg3 (T:World) (h:Hp) (o:Ow) (wb i nb:Nat) (Z6:Nat→Nat) (a:NA) (n:Nd) (YE:WA) (fl:List Y6) (bad:Nat→Int) (told:List Tld) (s:Int) (x:Cm) (d:Dom o h)
  (N:ZJ o h wb i nb a n) (W:ZF o h wb Z6 YE fl bad told) (hk:n.known.length≤100000000000) (hl:n.log.length≤100000000000) (ht:told.length≤100000000000) (hq:n.queue.length≤1000000000000) (hw:n.waiting.length≤1000000000000) :
  Zd Tryz.prog T 92 #[Zn wb,Zn nb,.int .i64 s,cmA x] h fun v' h'=>∃o' a' Xq,Kp (QC i) o h o' h'∧ZJ o' h' wb i nb a' (UX n s x).n∧ZF o' h' wb Z6 Xq fl bad (told++(UX n s x).ts):=by
 have hnb:=Za N.ZE.2
 have hwb:=Za W.ZE.2
 refine Zd.Zi (args:=[_,_,_,_]) Tryz.func92 rfl rfl rfl rfl ?_
 unfold Zn cmA
 simp -implicitDefEqProofs only[go_sem,↓reduceIte]
 obtain⟨h1,YF⟩:=Zx (h.push (.cells x.C.toArray 77):Hp)
 have k1:Kp J9 o h o h1:=by rw[YF];exact ZV d _
 have x1:ZM o h1 h.size (.cells x.C.toArray 77):=⟨d _ (Nat.le_refl _),by rw[YF];exact Zb⟩
 rw[←YF]
 have N1:=N.still k1
 have W1:=W.still k1
 clear YF
 have R1:=Zw N1.ZE.2 N1.pt.store.len
 have JE:=Za N1.ZE.2
 have hs1:=Za x1.2
 have r1:rd h1 ⟨h.size,0,none⟩ 5=some x.C:=Zo x1.2 rfl
 refine VS.z (h1.size) [6] (.p 0 (.p 1 (.p 2 (.q 3 (.p 4 (.q 5 (.w 6 .nil))))))) mixed (by kernel_rfl) ?_
 simp -implicitDefEqProofs only[go_sem,↓reduceIte,R1.known,JE,r1,hs1]
 have km:=XN (K:=fun _ _=>True) (x:=.agg x.C.toArray) (n:=s) Za8 N1.pt.known.2 (P:=Tryz.prog)
 rw[XN Za8 N1.pt.known.2]
 have k2:Kp (fun t=>t=.known i) o h1 o (h1.setIfInBounds a.known (Xk (ins (Uo cmA n.known) s (.agg x.C.toArray)))):=(Kp.refl k1.ZU (fun t=>t=.known i)).set N1.pt.known.1 rfl _
 have m2:Qo o (.known i) (h1.setIfInBounds a.known (Xk (ins (Uo cmA n.known) s (.agg x.C.toArray)))) a.known (Uo cmA (ins n.known s x)):=
  ⟨N1.pt.known.1,by rw[Zu N1.pt.known.2,ZbO];rfl⟩
 have N2:ZJ o (h1.setIfInBounds a.known (Xk (ins (Uo cmA n.known) s (.agg x.C.toArray)))) wb i nb a (QU n s x):=⟨N1.ZE.Zc k2 (by intro e;cases e),N1.pt.ZqE k2 m2⟩
 have W2:=W1.Zc k2 (by rintro t rfl;simp[Tg.of])
 have K2:Kp (QC i) o h o (h1.setIfInBounds a.known (Xk (ins (Uo cmA n.known) s (.agg x.C.toArray)))):=(ZC k1).trans (k2.mono fun t q=>.inr (.inr (.inr (.inl q))))
 generalize (h1.setIfInBounds a.known (Xk (ins (Uo cmA n.known) s (.agg x.C.toArray))))=h2 at *
 clear km
 unfold UX
 obtain⟨L,hL⟩:=Zx ((QU n s x).known.length)
 have hLb:L≤100000000001:=by
  rw[hL];unfold QU;simp only[ZcX];split<;>omega
 obtain⟨n0,hn0⟩:=Zx (QU n s x)
 rw[←hn0]at N2 hL ⊢
 rw[←hL]
 have hl0:n0.log.length≤100000000000:=by rw[hn0];exact hl
 have hq0:n0.queue.length≤1000000000000:=by rw[hn0];exact hq
 have hw0:n0.waiting.length≤1000000000000:=by rw[hn0];exact hw
 clear N1 W1 R1 JE hs1 r1 k2 m2 N W hk hl hq hw hn0 k1 x1
 simp -implicitDefEqProofs only[go_sem,↓reduceIte]
 refine VS.ZW (fun F g=>F 0=.pointer (some ⟨wb,0,none⟩)∧F 1=.pointer (some ⟨nb,0,none⟩)∧∃o' a' Xq m ts f j,Kp (QC i) o h o' g∧ZJ o' g wb i nb a' m∧ZF o' g wb Z6 Xq fl bad (told++ts)∧f+j=L+1∧m.known=n0.known∧m.log.length=n0.log.length+j ∧
   m.queue.length≤1000000000000∧m.waiting.length≤1000000000000∧ts.length≤j∧(∀j',j'<j→(Yp n0.known ((n0.log.length+j':Nat):Int)).isSome=true)∧(Yy (L+1) n0).1=(Yy f m).1∧(Yy (L+1) n0).2=ts++(Yy f m).2)
  (fun F g=>n0.log.length+L+2-ZoJ (hc g ⟨nb,11,none⟩)) rfl ⟨rfl,rfl,o,a,YE,n0,[],L+1,0,K2,N2,by rw[List.append_nil];exact W2,rfl,rfl,rfl,hq0,hw0,Nat.le_refl _,fun j' h=>by omega,rfl,rfl⟩ ?_
 rintro F g ⟨f0,f1,o',a',Xq,m,ts,f,j,K,M,V,hf,hmk,hml,hmq,hmw,hts,hjs,g1,g2⟩
 have R:=Zw M.ZE.2 M.pt.store.len
 have Zv5:=Za M.ZE.2
 obtain⟨lp,lc,ZhP,hlc⟩:=YA.isSlice M.pt.log
 have mu:ZoJ (hc g ⟨nb,11,none⟩)=m.log.length:=by rw[R.log,ZhP];rfl
 rw[mu]
 have R11:=R.log
 rw[ZhP]at R11
 have lk:=fun (K:Value→Hp→Prop)=>Yr (K:=K) (n:=(m.log.length:Int)) (c:=true) Za8 Zd5 M.pt.known.2
 have lk2:=fun (K:Value→Hp→Prop) (x:Obj)=>Yr (h:=g.push x) (K:=K) (n:=(m.log.length:Int)) (c:=true) Za8 Zd5 ((Zq (Za M.pt.known.2)).trans M.pt.known.2)
 rw[Xj]at lk
 simp only[Xj]at lk2
 simp -implicitDefEqProofs only[go_sem,↓reduceIte,f0,f1]
 cases hx:Yp m.known (m.log.length:Int) with
 | none=>
  rw[hx]at lk
  simp only[hx,Option.map_none,Option.getD_none,Option.isSome_none,↓reduceIte]at lk lk2
  have e:f≠0→Yy f m=(m,[]):=fun Ys=>by
   obtain⟨f',rfl⟩:∃f',f=f'+1:=⟨f-1,by omega⟩
   unfold Yy;rw[hx]
  have e':Yy f m=(m,[]):=by
   by_cases q:f=0
   ·subst q;rfl
   ·exact e q
  rw[e']at g1 g2
  refine VS.mono (N:=fun F' g'=>Zf g.size g g'∧F' 9=.bool false) ?_ ?_ (fun _ _ _ h=>h) (fun _ _ h=>h)
  ·refine VS.z (g.size) [9,14] (.p 0 (.p 1 (.p 2 (.q 3 (.p 4 (.p 5 (.p 6 (.q 7 (.p 8 (.or 9 (.p 10 (.p 11 (.p 12 (.s 13 (.w 14 (.p 15 .nil)))))) (.s 13 (.w 9 (.p 10 (.p 11 (.p 12 (.w 14 (.p 15 .nil))))))))))))))))) mixed (by kernel_rfl) ?_
   simp -implicitDefEqProofs only[go_sem,↓reduceIte,f0,f1,R.known,R11,Zv5,lk,lk2]
   repeat' (first|exact Zf.refl _ _|exact Zf.push (Nat.le_refl _) _|refine And.intro ?_ ?_)
  ·rintro F' g' ⟨b,f9⟩
   simp -implicitDefEqProofs only[go_sem,↓reduceIte,f9]
   rw[g1,g2,List.append_nil]
   exact⟨o',a',Xq,K.Z9 b,M.still (ZB K.ZU b),V.still (ZB K.ZU b)⟩
 | some y=>
  rw[hx]at lk
  simp only[hx,Option.map_some,Option.getD_some,Option.isSome_some,↓reduceIte]at lk lk2
  refine VS.mono (N:=fun F' g'=>Zf g.size g g'∧F' 0=.pointer (some ⟨wb,0,none⟩)∧F' 1=.pointer (some ⟨nb,0,none⟩)∧F' 9=.bool true∧F' 8=.pointer (some ⟨g.size,0,none⟩)∧g'[g.size]? = some (.cells y.C.toArray 77)) ?_ ?_ (fun _ _ _ h=>h) (fun _ _ h=>h)
  ·refine VS.z (g.size) [9,14] (.p 0 (.p 1 (.p 2 (.q 3 (.p 4 (.p 5 (.p 6 (.q 7 (.p 8 (.or 9 (.p 10 (.p 11 (.p 12 (.s 13 (.w 14 (.p 15 .nil)))))) (.s 13 (.w 9 (.p 10 (.p 11 (.p 12 (.w 14 (.p 15 .nil))))))))))))))))) mixed (by kernel_rfl) ?_
   simp -implicitDefEqProofs only[go_sem,↓reduceIte,f0,f1,R.known,R11,Zv5,lk,lk2,cmA]
   have gp:∀x:Obj,(g.push x)[g.size]? = some x:=fun x=>Zb
   repeat' (first|exact Zf.refl _ _|exact Zf.push (Nat.le_refl _) _|exact gp _|refine And.intro ?_ ?_)
  ·rintro F2 g2 ⟨b2,f20,f21,f29,f28,x2⟩
   simp -implicitDefEqProofs only[go_sem,↓reduceIte,f29]
   have kb:=ZB K.ZU b2
   have M2:=M.still kb
   have V2:=V.still kb
   have bx2:ZM o' g2 g.size (.cells y.C.toArray 77):=⟨K.ZU _ (Nat.le_refl _),x2⟩
   have K2:=K.Z9 b2
   have hgs:=Zv5
   clear R R11 lk lk2 Zv5 mu
   have R2:=Zw M2.ZE.2 M2.pt.store.len
   have JH:=Za M2.ZE.2
   have hs2:=Za x2
   have r2:rd g2 ⟨g.size,0,none⟩ 5=some y.C:=Zo x2 rfl
   refine VS.z (g2.size) [7,10] (.p 0 (.p 1 (.p 2 (.p 3 (.q 4 (.q 5 (.s 6 (.w 7 (.p 8 (.p 9 (.w 10 .nil))))))))))) mixed (by kernel_rfl) ?_
   simp -implicitDefEqProofs only[go_sem,↓reduceIte,f20,f21,f28,R2.log,JH,hs2,r2]
   have k3:=ZV K2.ZU (.cells y.C.toArray 77)
   refine ZeD (l:=m.log) (M2.still k3).pt.log k3.ZU Zb (by omega) ?_
   intro p c o3 g3 w3 kk3
   have k3':Kp (fun t=>t=.log i) o' g2 o3 g3:=(ZC k3).trans kk3
   have b3:=M2.ZE.Zc k3' (by intro e;cases e)
   have w:=(YP b3.2 M2.pt.store.len).log (.slice p (m.log.length+1) c) rfl
   simp -implicitDefEqProofs only[go_sem,↓reduceIte,w]
   have M4:=(M2.pt.Zv2 k3' w3).put k3'.ZU b3
   have kn:Kp (fun t=>t=.node i) o3 g3 o3 (g3.setIfInBounds nb (Xc { m with log:=m.log++[y] } { a' with log:=.slice p (m.log.length+1) c })):=(Kp.refl k3'.ZU (fun t=>t=.node i)).set b3.1 rfl _
   have V4:=(V2.Zc k3' (by rintro t rfl;simp[Tg.of])).Zc kn (by rintro t rfl;simp[Tg.of])
   have x4:=(bx2.Zc k3').Zc kn
   have K4:Kp (QC i) o h o3 (g3.setIfInBounds nb (Xc { m with log:=m.log++[y] } { a' with log:=.slice p (m.log.length+1) c })):=
    (K2.trans (k3'.mono fun t q=>.inr (.inr (.inr (.inr (.inl q)))))).trans (kn.mono fun t q=>.inr (.inr (.inl q)))
   obtain⟨g4,hg4⟩:=Zx (g3.setIfInBounds nb (Xc m { a' with log:=.slice p (m.log.length+1) c }))
   rw[show Xc { m with log:=m.log++[y] } { a' with log:=.slice p (m.log.length+1) c } = Xc m { a' with log:=.slice p (m.log.length+1) c } from rfl,←hg4]at M4 V4 x4 K4
   rw[←hg4]
   clear hg4 kn
   have R4:=Zw M4.ZE.2 M4.pt.store.len
   have Zfx:=Za M4.ZE.2
   have hs4:=Za x4.2
   have r4:rd g4 ⟨g.size,0,none⟩ 5=some y.C:=Zo x4.2 rfl
   have call:=fun G=>ZoH T G m.store M4.pt.store y
   have R4s:rd g4 ⟨nb,12,none⟩ 40=some m.store:=R4.store
   have hD:=(M4.pt.store.do y)
   have hD0:ZjB ({ m with log:=m.log++[y] }:Nd).store y=ZjB m.store y:=rfl
   rw[hD0]at hD
   obtain⟨D,hDe⟩:=Zx (ZjB m.store y)
   obtain⟨E,hE⟩:=Zx (Zd3 m.store y)
   obtain⟨c1,hc1⟩:=Zx (Zc6 m.store y)
   obtain⟨c2,hc2⟩:=Zx (ZgV m.store y)
   rw[←hDe]at hD
   rw[←hDe,←hE,←hc1,←hc2]at call
   have hD1:=hD.len
   have hD2:=hD.one
   unfold cmA at call
   have hl2:=ZN (zs:=Jx) (vs:=D) (by rw[hD1];rfl)
   unfold Jx at hl2
   simp only[rep,List.cons_append,List.nil_append]at hl2
   have wA:∀(G:Hp) (k:Nat),G[k]? = some (.cells Jx.toArray 72)→wr G ⟨k,0,none⟩ D=some (G.setIfInBounds k (.cells D.toArray 72)):=fun G k hx=>by
    rw[ZQ hx 0 D,ZN (by rw[hD1];rfl),if_pos ⟨by rw[hD1];simp[Jx,rep],hD2⟩]
   have wB:∀(G:Hp) (k:Nat),G[k]? = some (.cells [.int .i64 0,.int .i64 0].toArray 68)→wr G ⟨k,0,none⟩ [.int .i64 c1,.int .i64 c2]=some (G.setIfInBounds k (.cells [.int .i64 c1,.int .i64 c2].toArray 68)):=fun G k hx=>by
    rw[ZQ hx 0 _];rfl
   have gl:∀(G:Hp) (X Y:Obj),((G.push X).push Y)[G.size]? = some X:=fun G X Y=>by rw[Zq (by simp),Zb]
   have gs:∀(G:Hp) (k:Nat) (X Y:Obj),((G.setIfInBounds k X).push Y)[G.size]? = some Y:=fun G k X Y=>by
    have:=Zb (h:=G.setIfInBounds k X) (o:=Y);rwa [Array.size_setIfInBounds]at this
   have gl':=gs
   have gr:∀(G:Hp) (X Y:Obj),((G.push X).push Y)[G.size+1]? = some Y:=fun G X Y=>by
    have:=Zb (h:=G.push X) (o:=Y);rwa [Array.size_push]at this
   refine VS.mono (N:=fun F' g'=>Zf g4.size g4 g'∧F' 0=.pointer (some ⟨wb,0,none⟩)∧F' 1=.pointer (some ⟨nb,0,none⟩)∧F' 8=.pointer (some ⟨g.size,0,none⟩)∧∃A B,F' 10=.pointer (some ⟨A,0,none⟩)∧F' 11=.pointer (some ⟨B,0,none⟩)∧g4.size≤A∧g4.size≤B∧g'[A]? = some (.cells D.toArray 72)∧g'[B]? = some (.cells [.int .i64 c1,.int .i64 c2].toArray 68)) ?_ ?_ (fun _ _ _ h=>h) (fun _ _ h=>h)
   ·refine VS.z (g4.size) [5,12,13] (.p 0 (.p 1 (.p 2 (.q 3 (.q 4 (.or 5 (.p 6 (.p 7 (.p 8 (.p 9 (.or 10 (.s 11 (.w 12 (.w 13 (.p 14 .nil)))) (.s 11 (.s 10 (.w 12 (.w 13 (.p 14 .nil)))))))))) (.or 10 (.or 5 (.p 6 (.p 7 (.p 8 (.p 9 (.s 11 (.w 12 (.w 13 (.p 14 .nil)))))))) (.s 11 (.w 5 (.p 6 (.p 7 (.p 8 (.p 9 (.w 12 (.w 13 (.p 14 .nil)))))))))) (.s 11 (.or 5 (.p 6 (.p 7 (.p 8 (.p 9 (.s 10 (.w 12 (.w 13 (.p 14 .nil)))))))) (.s 10 (.w 5 (.p 6 (.p 7 (.p 8 (.p 9 (.w 12 (.w 13 (.p 14 .nil)))))))))))))))))) mixed (by kernel_rfl) ?_
    simp -implicitDefEqProofs only[go_sem,↓reduceIte,f20,f21,f28,R4s,Zfx,hs4,r4]
    repeat' (first|with_reducible exact Zf.refl _ _|with_reducible exact Zf.push (by omega) _|with_reducible refine And.intro ?_ ?_)
    all_goals first
     | (refine (call g4).use ?_
        rintro _ g5 ⟨rfl,b5⟩
        have s5:=b5.size
        simp -implicitDefEqProofs only[go_sem,↓reduceIte,b5,hD1,hD2,hl2]
        refine⟨⟨f20,f21,f28,_,_,rfl,rfl,s5,by omega,gl _ _ _,gr _ _ _⟩,⟨f20,f21,f28,_,_,rfl,rfl,by omega,s5,gr _ _ _,gl _ _ _⟩⟩)
     | (refine (call (g4.push (.cells _ 72))).use ?_
        rintro _ g5 ⟨rfl,b5⟩
        have s5:=b5.size
        rw[Array.size_push]at s5
        have B5:Zf g4.size g4 g5:=(Zf.push (Nat.le_refl _) _).trans (b5.mono (by simp))
        have xA:=b5.get (k:=g4.size) (by simp) Zb
        have wA5:=wA _ _ xA
        have zA:=Za xA
        have gA:=Zu (o:=.cells D.toArray 72) xA
        simp -implicitDefEqProofs only[go_sem,↓reduceIte,B5,hD1,hD2,wA5,zA]
        exact⟨f20,f21,f28,_,_,rfl,rfl,Nat.le_refl _,by omega,by rw[Zq (by simpa using zA)];exact gA,gs _ _ _ _⟩)
     | (refine (call (g4.push (.cells _ 68))).use ?_
        rintro _ g5 ⟨rfl,b5⟩
        have s5:=b5.size
        rw[Array.size_push]at s5
        have B5:Zf g4.size g4 g5:=(Zf.push (Nat.le_refl _) _).trans (b5.mono (by simp))
        have xB:=b5.get (k:=g4.size) (by simp) Zb
        have wB5:=wB _ _ xB
        have zB:=Za xB
        have gB:=Zu (o:=.cells [.int .i64 c1,.int .i64 c2].toArray 68) xB
        simp -implicitDefEqProofs only[go_sem,↓reduceIte,B5,hD1,hD2,wB5,hl2,zB]
        exact⟨f20,f21,f28,_,_,rfl,rfl,by omega,Nat.le_refl _,gl' _ _ _ _,by rw[Zq (by simpa using zB)];exact gB⟩)
     | (refine (call ((g4.push (.cells _ 72)).push (.cells _ 68))).use ?_
        rintro _ g5 ⟨rfl,b5⟩
        have s5:=b5.size
        rw[Array.size_push,Array.size_push]at s5
        have B5:Zf g4.size g4 g5:=((Zf.push (Nat.le_refl _) _).Ye (by simp) _).trans (b5.mono (by simp;omega))
        have xA:=b5.get (k:=g4.size) (by simp;omega) (gl _ _ _)
        have xB:=b5.get (k:=g4.size+1) (by simp) (gr _ _ _)
        have wA5:=wA _ _ xA
        have zA:=Za xA
        have xB':=(Yf (o:=.cells D.toArray 72) (show g4.size≠g4.size+1 by omega)).trans xB
        have wB5:=wB _ _ xB'
        have zB:=Za xB'
        simp -implicitDefEqProofs only[go_sem,↓reduceIte,B5,hD1,hD2,wA5,zA,wB5,zB]
        exact⟨f20,f21,f28,_,_,rfl,rfl,by omega,by omega,(Yf (by omega)).trans (Zu xA),Zu xB'⟩)
     | (refine (call ((g4.push (.cells _ 68)).push (.cells _ 72))).use ?_
        rintro _ g5 ⟨rfl,b5⟩
        have s5:=b5.size
        rw[Array.size_push,Array.size_push]at s5
        have B5:Zf g4.size g4 g5:=((Zf.push (Nat.le_refl _) _).Ye (by simp) _).trans (b5.mono (by simp;omega))
        have xB:=b5.get (k:=g4.size) (by simp;omega) (gl _ _ _)
        have xA:=b5.get (k:=g4.size+1) (by simp) (gr _ _ _)
        have wA5:=wA _ _ xA
        have zA:=Za xA
        have xB':=(Yf (o:=.cells D.toArray 72) (show g4.size+1≠g4.size by omega)).trans xB
        have wB5:=wB _ _ xB'
        have zB:=Za xB'
        simp -implicitDefEqProofs only[go_sem,↓reduceIte,B5,hD1,hD2,wA5,zA,wB5,zB]
        exact⟨f20,f21,f28,_,_,rfl,rfl,by omega,by omega,(Yf (by omega)).trans (Zu xA),Zu xB'⟩)
   ·rintro F5 g5 ⟨b5,f50,f51,f58,A,B,f5A,f5B,hA,hB,yA,yB⟩
    have kb5:=ZB K4.ZU b5
    have M5:=M4.still kb5
    have V5:=V4.still kb5
    have x5:=x4.Zc kb5
    have K5:=K4.Z9 b5
    have z5:=Za M5.ZE.2
    have rA:rd g5 ⟨A,0,none⟩ 40=some D:=Zo yA hD1
    obtain⟨g6,w6,M6,k6⟩:=ZS.write (n:={ m with log:=m.log++[y],store:=D }) { M5.pt with store:=hD } K5.ZU M5.ZE ((YP M5.ZE.2 M5.pt.store.len).store D hD1 hD2)
    have V6:=V5.Zc k6 (by rintro t rfl;simp[Tg.of])
    have x6:=x5.Zc k6
    have K6:Kp (QC i) o h o3 g6:=K5.trans (k6.mono fun t q=>.inr (.inr (.inl q)))
    have xB6:=(show ZM o3 g5 B _ from⟨K4.ZU _ (by omega),yB⟩).Zc k6
    have R6:=Zw M6.ZE.2 hD1
    have z6:=Za M6.ZE.2
    clear R4 R4s Zfx hs4 r4 R2 JH hs2 r2
    simp -implicitDefEqProofs only[go_sem,↓reduceIte,f50,f51,f58,f5A,f5B,rA,w6,hD1,R6.queue,z5]
    refine (Zlp T g6 o3 (.queue i) _ m.queue g.size y M6.pt.queue K6.ZU x6 (by omega)).use ?_
    rintro v7 g7 ⟨q7,k7⟩
    obtain⟨p7,c7,rfl,_⟩:=YA.isSlice q7
    have b7:=M6.ZE.Zc k7 (by intro e;cases e)
    obtain⟨g8,w8,M8,k8⟩:=(M6.pt.Ziw k7 q7).write k7.ZU b7 ((YP b7.2 hD1).queue (.slice p7 _ c7) rfl)
    have z7:=Za b7.2
    have V8:=(V6.Zc k7 (by rintro t rfl;simp[Tg.of])).Zc k8 (by rintro t rfl;simp[Tg.of])
    have x8:=(x6.Zc k7).Zc k8
    have xB8:=(xB6.Zc k7).Zc k8
    have K8:Kp (QC i) o h o3 g8:=(K6.trans (k7.mono fun t q=>.inr (.inr (.inr (.inr (.inr (.inl q))))))).trans (k8.mono fun t q=>.inr (.inr (.inl q)))
    have R8:=Zw M8.ZE.2 hD1
    have z8:=Za M8.ZE.2
    simp -implicitDefEqProofs only[go_sem,↓reduceIte,f50,f51,f58,w8,z7,R8.waiting]
    refine (Zg1 T g8 _ m.waiting g.size y M8.pt.waiting.ts x8.2 (by omega)).use ?_
    rintro _ g9 ⟨rfl,b9⟩
    have kb9:=ZB K8.ZU b9
    have M9:=M8.still kb9
    have V9:=V8.still kb9
    have x9:=x8.Zc kb9
    have xB9:=xB8.Zc kb9
    have K9:=K8.Z9 b9
    have ZbG:∃f',f=f'+1:=⟨f-1,by
     have:f≠0:=fun q=>by
      subst q
      have hj:j=L+1:=by omega
      have:=Zlq n0.known n0.log.length (L+2) fun j' hj'=>by
       by_cases q:j'<j
       ·exact hjs j' q
       ·have:j'=j:=by omega
        subst this
        rw[←hml,←hmk,hx];rfl
      rw[←hL]at this
      omega
     omega⟩
    obtain⟨f',rfl⟩:=ZbG
    have lg:Yy (f'+1) m=((Yy f' (UW m y)).1,Zbx m y++(Yy f' (UW m y)).2):=by
     rw[Yy,hx]
    rw[lg]at g1 g2
    have ZBr:∀j',j'<j+1→(Yp n0.known ((n0.log.length+j':Nat):Int)).isSome=true:=fun j' hj'=>by
     by_cases q:j'<j
     ·exact hjs j' q
     ·have:j'=j:=by omega
      subst this
      rw[←hml,←hmk,hx];rfl
    have hfl:(m.queue.filter fun z=>decide (z≠y)).length≤m.queue.length:=List.length_filter_le _ _
    have mono:∀(G:Hp) (nn:Nd) (aa:NA) (oo:Ow),ZJ oo G wb i nb aa nn→nn.log.length=m.log.length+1→n0.log.length+L+2-ZoJ (hc G ⟨nb,11,none⟩)<n0.log.length+L+2-m.log.length:=fun G nn aa oo H hh=>by
     have RR:=Zw H.ZE.2 H.pt.store.len
     obtain⟨lp,lc,ZhP,hlc⟩:=YA.isSlice H.pt.log
     have:ZoJ (hc G ⟨nb,11,none⟩)=nn.log.length:=by rw[RR.log,ZhP];rfl
     rw[this,hh]
     omega
    by_cases hy:y∈m.waiting
    case neg=>
     have e1:Zba m.waiting y = -1:=by unfold Zba;rw[if_neg hy]
     have e2:Zbx m y=[]:=by unfold Zbx;rw[if_neg hy]
     have e3:m.waiting.erase y=m.waiting:=List.erase_of_not_mem hy
     rw[e2]at g2
     have e4:UW m y = { m with log:=m.log++[y],store:=D,queue:=m.queue.filter (fun z=>decide (z≠y)) }:=by unfold UW;rw[e3,←hDe]
     rw[e4]at g1 g2
     rw[List.nil_append]at g2
     simp -implicitDefEqProofs only[go_sem,↓reduceIte,e1]
     unfold Xo
     refine⟨⟨f50,f51,o3,_,Xq,_,ts,f',j+1,K9,M9,V9,by omega,hmk,by simp[hml];omega,by simp only;omega,hmw,by omega,ZBr,g1,g2⟩,mono _ _ _ _ M9 (by simp)⟩
    have e1:0≤Zba m.waiting y:=(Zd8 _ _).2 hy
    have e5:Zba m.waiting y=(m.waiting.idxOf y:Nat):=by unfold Zba;rw[if_pos hy]
    obtain⟨r,hr⟩:=Zx (m.waiting.idxOf y)
    have hrl:r<m.waiting.length:=by rw[hr];exact List.idxOf_lt_length_of_mem hy
    rw[←hr]at e5
    have e2:Zbx m y=[⟨m.me,y.c,y.s,Zc6 m.store y,ZgV m.store y⟩]:=by unfold Zbx;rw[if_pos hy]
    have e3:m.waiting.erase y=m.waiting.take r++m.waiting.drop (r+1):=by
     rw[List.erase_eq_eraseIdx_of_idxOf,List.eraseIdx_eq_take_drop_succ]
     exact hr.symm
    rw[e2]at g2
    have R9:=Zw M9.ZE.2 hD1
    have z9:=Za M9.ZE.2
    simp -implicitDefEqProofs only[go_sem,↓reduceIte,e1,e5,f50,f51,f58,R9.waiting,z9]
    refine (Zlm T g9 o3 (.waiting i) _ m.waiting.length r _ M9.pt.waiting K9.ZU (Zv4 _) hrl (by omega)).use ?_
    rintro v10 g10 ⟨q10,k10⟩
    have wl:(m.waiting.erase y).length=m.waiting.length-1:=by rw[e3,List.length_append,List.length_take,List.length_drop];omega
    have Q10:QB o3 (.waiting i) g10 v10 (m.waiting.erase y):=by
     unfold QB
     rw[wl,e3,Yh,←Zbb Zd7 _ _ (by omega),←Zbc Zd7 _ _ (by omega)]
     exact q10
    obtain⟨p10,c10,rfl,_⟩:=YA.isSlice Q10
    have b10:=M9.ZE.Zc k10 (by intro e;cases e)
    obtain⟨g11,w11,M11,k11⟩:=(M9.pt.Zfh k10 Q10).write k10.ZU b10 ((YP b10.2 hD1).waiting (.slice p10 _ c10) rfl)
    have z10:=Za b10.2
    have V11:=(V9.Zc k10 (by rintro t rfl;simp[Tg.of])).Zc k11 (by rintro t rfl;simp[Tg.of])
    have x11:=(x9.Zc k10).Zc k11
    have ZBs:=(xB9.Zc k10).Zc k11
    have K11:Kp (QC i) o h o3 g11:=(K9.trans (k10.mono fun t q=>.inr (.inr (.inr (.inr (.inr (.inr q))))))).trans (k11.mono fun t q=>.inr (.inr (.inl q)))
    have R11:=Zw M11.ZE.2 hD1
    have z11:=Za M11.ZE.2
    have U11:=YY V11.ZE.2
    have ZGG:=Za V11.ZE.2
    have rx1:hc g11 ⟨g.size,1,none⟩=some (.int .i64 y.c):=Zg x11.2
    have rx2:hc g11 ⟨g.size,2,none⟩=some (.int .i64 y.s):=Zg x11.2
    have rB:rd g11 ⟨B,0,none⟩ 2=some [.int .i64 c1,.int .i64 c2]:=Zo ZBs.2 rfl
    have ZGH:=Za x11.2
    have ZGI:=Za ZBs.2
    simp -implicitDefEqProofs only[go_sem,↓reduceIte,w11,z10]
    refine VS.z (g11.size) [17,21] (.p 0 (.p 1 (.p 2 (.p 3 (.p 4 (.q 5 (.p 6 (.p 7 (.p 8 (.q 9 (.p 10 (.q 11 (.p 12 (.q 13 (.q 14 (.p 15 (.s 16 (.w 17 (.p 18 (.p 19 (.p 20 (.w 21 .nil)))))))))))))))))))))) mixed (by kernel_rfl) ?_
    simp -implicitDefEqProofs only[go_sem,↓reduceIte,f50,f51,f58,f5B,U11.told,R11.me,rx1,rx2,rB,z11,ZGG,ZGH,ZGI]
    have k12:=ZV K11.ZU (.cells (ZgZ ⟨m.me,y.c,y.s,c1,c2⟩).toArray 116)
    have V12:=V11.still k12
    refine Zfj (l:=told++ts) (x:=⟨m.me,y.c,y.s,c1,c2⟩) V12.told k12.ZU Zb (by rw[List.length_append];omega) ?_
    intro p13 c13 o13 g13 q13 k13
    have b13:=V12.ZE.Zc k13 (by intro e;cases e)
    obtain⟨g14,w14,V14,k14⟩:=V12.ZoI k13 q13 ((YY b13.2).Zxd (.slice p13 _ c13) rfl)
    have z13:=Za b13.2
    simp -implicitDefEqProofs only[go_sem,↓reduceIte,w14,z13]
    have M14:=((M11.still k12).Zc k13 (by rintro t rfl;simp[Tg.of])).Zc k14 (by rintro t rfl;simp[Tg.of])
    have K14:Kp (QC i) o h o13 g14:=(((K11.trans (ZC k12)).trans (k13.mono fun t q=>.inr (.inl q))).trans (k14.mono fun t q=>.inl q))
    have e4:UW m y = { m with log:=m.log++[y],store:=D,queue:=m.queue.filter (fun z=>decide (z≠y)),waiting:=m.waiting.erase y }:=by unfold UW;rw[←hDe]
    rw[e4]at g1 g2
    rw[←hc1,←hc2]at g2
    obtain⟨ZLW,V15⟩:∃A,ZF o13 g14 wb Z6 A fl bad (told++(ts++[⟨m.me,y.c,y.s,c1,c2⟩])):=⟨_,by rw[←List.append_assoc];exact V14⟩
    rw[←List.append_assoc]at g2
    unfold Xo
    refine⟨⟨f50,f51,o13,_,_,_,ts++[⟨m.me,y.c,y.s,c1,c2⟩],f',j+1,K14,M14,V15,by omega,hmk,by simp[hml];omega,by simp only;omega,by simp only;omega,by simp;omega,ZBr,g1,g2⟩,mono _ _ _ _ M14 (by simp)⟩
def ZBt (o:Ow) (h:Hp) (wb:Nat) (Z6:Nat→Nat) (fl:List Y6) (bad:Nat→Int) (told:List Tld) (h':Hp):Prop:=
 ∃o' Xq,Kp ZoF o h o' h'∧ZF o' h' wb Z6 Xq fl bad told
theorem ZoK (T:World) (h:Hp) (o:Ow) (wb nb:Nat) (Z6:Nat→Nat) (me:Nat) (YE:WA) (fl:List Y6) (bad:Nat→Int) (told:List Tld) (b3 b4 b5 b7:Nat) (l:Y6) (w5 w:Value) (vs:List Vt) (d:Dom o h)
  (W:ZF o h wb Z6 YE fl bad told) (hme:hc h ⟨nb,0,none⟩=some (.int .i64 me)) (hnb:nb<h.size) (Yn:fl.length≤1000000000000)
  (x3:ZM o h b3 (.cells [Zn wb].toArray 49)) (x4:ZM o h b4 (.cells [Zn nb].toArray 56)) (x5:ZM o h b5 (.cells (YX l w5).toArray 98)) (x7:ZM o h b7 (.cells [w].toArray 61)) (iv:ImV o h w vs) :
  Zd Tryz.prog T 88 #[Zn b3,Zn b4,Zn b5,Zn b7] h fun v' h'=>ZBt o h wb Z6 (fl++[⟨1,me,l.Jm,l.b,vt0,vs⟩]) bad told h':=by
 obtain⟨pw,cw,rfl⟩:=iv.isSlice
 refine Zd.Zi (args:=[_,_,_,_]) Tryz.func88 rfl rfl rfl rfl ?_
 unfold Zn
 have r3:hc h ⟨b3,0,none⟩=some (Zn wb):=Zg x3.2
 have r4:hc h ⟨b4,0,none⟩=some (Zn nb):=Zg x4.2
 have r5:hc h ⟨b5,1,none⟩=some (.int .i64 l.Jm):=Zg x5.2
 have r6:rd h ⟨b5,3,none⟩ 2=some [.int .i64 l.b.r,.int .i64 l.b.n]:=by rw[Z4 x5.2 (by simp[YX])];rfl
 have r7:hc h ⟨b7,0,none⟩=some (.slice pw vs.length cw):=Zg x7.2
 simp -implicitDefEqProofs only[go_sem,↓reduceIte,r3,r4,r5,r6,r7]
 refine (UA T h o wb nb Z6 me YE fl bad told l.Jm ⟨1,0,0,l.b,vt0,vs⟩ _ d W hme hnb iv Yn).use ?_
 rintro v' h' ⟨o',Xq,k,_,W'⟩
 simp -implicitDefEqProofs only[go_sem,↓reduceIte]
 exact⟨o',Xq,k,W'⟩
theorem ZoL (T:World) (h:Hp) (o:Ow) (wb nb:Nat) (Z6:Nat→Nat) (me:Nat) (YE:WA) (fl:List Y6) (bad:Nat→Int) (told:List Tld) (b3 b4 b5:Nat) (l:Y6) (w5:Value) (d:Dom o h)
  (W:ZF o h wb Z6 YE fl bad told) (hme:hc h ⟨nb,0,none⟩=some (.int .i64 me)) (hnb:nb<h.size) (Yn:fl.length≤1000000000000)
  (x3:ZM o h b3 (.cells [Zn wb].toArray 49)) (x4:ZM o h b4 (.cells [Zn nb].toArray 56)) (x5:ZM o h b5 (.cells (YX l w5).toArray 98)) :
  Zd Tryz.prog T 93 #[Zn b3,Zn b4,Zn b5] h fun v' h'=>ZBt o h wb Z6 (fl++[⟨3,me,l.Jm,Jf,l.v,[]⟩]) bad told h':=by
 refine Zd.Zi (args:=[_,_,_]) Tryz.func93 rfl rfl rfl rfl ?_
 unfold Zn
 have r3:hc h ⟨b3,0,none⟩=some (Zn wb):=Zg x3.2
 have r4:hc h ⟨b4,0,none⟩=some (Zn nb):=Zg x4.2
 have r5:hc h ⟨b5,1,none⟩=some (.int .i64 l.Jm):=Zg x5.2
 have r6:rd h ⟨b5,5,none⟩ 8=some (Zm l.v):=by rw[Z4 x5.2 (by simp[YX])];rfl
 unfold Zm at r6
 simp -implicitDefEqProofs only[go_sem,↓reduceIte,r3,r4,r5,r6]
 refine (UA T h o wb nb Z6 me YE fl bad told l.Jm ⟨3,0,0,Jf,l.v,[]⟩ (.slice none 0 0) d W hme hnb (Im.nil _ _ _ _) Yn).use ?_
 rintro v' h' ⟨o',Xq,k,_,W'⟩
 simp -implicitDefEqProofs only[go_sem,↓reduceIte]
 exact⟨o',Xq,k,W'⟩
def ZyB (i:Nat) (t:Tg):Prop:=t=.world∨t=.Zl∨t=.node i∨t=.prom i∨t=.Xb i
theorem Zv6 (T:World) (h:Hp) (o:Ow) (wb i nb:Nat) (Z6:Nat→Nat) (YE:WA) (fl:List Y6) (bad:Nat→Int) (told:List Tld) (a:NA) (n:Nd) (acc:Qt) (to:Int) (b:Yw) (vs:List Vt) (b6 b4 b9:Nat) (u:Value) (d:Dom o h)
  (N:ZJ o h wb i nb a n) (W:ZF o h wb Z6 YE fl bad told) (Yn:fl.length≤1000000000000)
  (x6:Zb8 o h b6 acc) (x4:ZM o h b4 (.cells [Zn nb].toArray 56)) (x9:ZM o h b9 (.cells [u].toArray 1)) (hu:Ztz o h wb nb u to b vs) :
  Zd Tryz.prog T 90 #[Zn b6,Zn b4,Zn b9] h fun v' h'=>∃o' a' Xq,Kp (ZyB i) o h o' h'∧ZJ o' h' wb i nb a' { n with own:=acc }∧ZF o' h' wb Z6 Xq (fl++[⟨1,n.me,to,b,vt0,vs⟩]) bad told:=by
 obtain⟨wa,xa,ia⟩:=x6
 obtain⟨pa,ca,rfl⟩:=ia.isSlice
 obtain⟨b3,b4',b5,b7,l,w5,w,rfl,y3,y4,y5,rfl,rfl,y7,iv⟩:=hu
 have hnb:=Za N.ZE.2
 refine Zd.Zi (args:=[_,_,_]) Tryz.func90 rfl rfl rfl rfl ?_
 unfold Zn
 have r4:hc h ⟨b4,0,none⟩=some (Zn nb):=Zg x4.2
 have r6:rd h ⟨b6,0,none⟩ 3=some [.int .i64 acc.p.r,.int .i64 acc.p.n,.slice pa acc.l.length ca]:=Zo xa.2 rfl
 obtain⟨g1,w1,N1,k1⟩:=ZS.write (a:={ a with YM:=.slice pa acc.l.length ca }) (n:={ n with own:=acc }) { N.pt with YM:=ia } d N.ZE ((YP N.ZE.2 N.pt.store.len).own acc.p.r acc.p.n (.slice pa acc.l.length ca) rfl)
 have W1:=W.Zc k1 (by rintro t rfl;simp[Tg.of])
 have x91:=x9.Zc k1
 have r9:hc g1 ⟨b9,0,none⟩=some (fnV 88 [b3,b4',b5,b7]):=Zg x91.2
 unfold fnV at r9
 simp only[List.map]at r9
 unfold Zn at r4 r9
 simp -implicitDefEqProofs only[go_sem,↓reduceIte,r4,r6,w1,hnb,r9]
 have R1:=Zw N1.ZE.2 N1.pt.store.len
 refine (ZoK T g1 o wb nb Z6 n.me YE fl bad told b3 b4' b5 b7 l w5 w vs k1.ZU W1 R1.me (Za N1.ZE.2) Yn (y3.Zc k1) (y4.Zc k1) (y5.Zc k1) (y7.Zc k1) (iv.Zc k1)).use ?_
 rintro v' h' ⟨o',Xq,k,W'⟩
 simp -implicitDefEqProofs only[go_sem,↓reduceIte]
 exact⟨o',_,Xq,(k1.mono fun t q=>.inr (.inr (.inl q))).trans (k.mono fun t q=>q.elim .inl fun q=>.inr (.inl q)),N1.Zc k (by rintro t (rfl|rfl)<;>simp[Tg.of]),W'⟩
theorem Zv7 (T:World) (h:Hp) (o:Ow) (wb i nb:Nat) (Z6:Nat→Nat) (YE:WA) (fl:List Y6) (bad:Nat→Int) (told:List Tld) (a:NA) (n:Nd) (acc:Qt) (to:Int) (x:Vt) (b6 b4 b9:Nat) (u:Value) (d:Dom o h)
  (N:ZJ o h wb i nb a n) (W:ZF o h wb Z6 YE fl bad told) (Yn:fl.length≤1000000000000)
  (x6:Zb8 o h b6 acc) (x4:ZM o h b4 (.cells [Zn nb].toArray 56)) (x9:ZM o h b9 (.cells [u].toArray 1)) (hu:ZtA o h wb nb u to x) :
  Zd Tryz.prog T 96 #[Zn b6,Zn b4,Zn b9] h fun v' h'=>∃o' a' Xq,Kp (ZyB i) o h o' h'∧ZJ o' h' wb i nb a' { n with own:=acc }∧ZF o' h' wb Z6 Xq (fl++[⟨3,n.me,to,Jf,x,[]⟩]) bad told:=by
 obtain⟨wa,xa,ia⟩:=x6
 obtain⟨pa,ca,rfl⟩:=ia.isSlice
 obtain⟨b3,b4',b5,l,w5,rfl,y3,y4,y5,rfl,rfl⟩:=hu
 have hnb:=Za N.ZE.2
 refine Zd.Zi (args:=[_,_,_]) Tryz.func96 rfl rfl rfl rfl ?_
 unfold Zn
 have r4:hc h ⟨b4,0,none⟩=some (Zn nb):=Zg x4.2
 have r6:rd h ⟨b6,0,none⟩ 3=some [.int .i64 acc.p.r,.int .i64 acc.p.n,.slice pa acc.l.length ca]:=Zo xa.2 rfl
 obtain⟨g1,w1,N1,k1⟩:=ZS.write (a:={ a with YM:=.slice pa acc.l.length ca }) (n:={ n with own:=acc }) { N.pt with YM:=ia } d N.ZE ((YP N.ZE.2 N.pt.store.len).own acc.p.r acc.p.n (.slice pa acc.l.length ca) rfl)
 have W1:=W.Zc k1 (by rintro t rfl;simp[Tg.of])
 have x91:=x9.Zc k1
 have r9:hc g1 ⟨b9,0,none⟩=some (fnV 93 [b3,b4',b5]):=Zg x91.2
 unfold fnV at r9
 simp only[List.map]at r9
 unfold Zn at r4 r9
 simp -implicitDefEqProofs only[go_sem,↓reduceIte,r4,r6,w1,hnb,r9]
 have R1:=Zw N1.ZE.2 N1.pt.store.len
 refine (ZoL T g1 o wb nb Z6 n.me YE fl bad told b3 b4' b5 l w5 k1.ZU W1 R1.me (Za N1.ZE.2) Yn (y3.Zc k1) (y4.Zc k1) (y5.Zc k1)).use ?_
 rintro v' h' ⟨o',Xq,k,W'⟩
 simp -implicitDefEqProofs only[go_sem,↓reduceIte]
 exact⟨o',_,Xq,(k1.mono fun t q=>.inr (.inr (.inl q))).trans (k.mono fun t q=>q.elim .inl fun q=>.inr (.inl q)),N1.Zc k (by rintro t (rfl|rfl)<;>simp[Tg.of]),W'⟩
theorem QW.ins {o:Ow} {h:Hp} {k:Int} {w:Value} {vs:List Vt} (iv:ImV o h w vs):∀{pv:List (Int × Value)} {pr:List (Int × List Vt)},QW o h pv pr→QW o h (Go.V.ins pv k w) (Go.V.ins pr k vs):=by
 intro pv pr s
 induction s with
 | nil=>exact .cons ⟨rfl,iv⟩ .nil
 | @cons a b l m hab _ ih=>
  obtain⟨a1,a2⟩:=a
  obtain⟨b1,b2⟩:=b
  obtain⟨rfl,h2⟩:=hab
  show Al2 _ (if a1=k then (a1,w) :: l else (a1,a2) :: Go.V.ins l k w) (if a1=k then (a1,vs) :: m else (a1,b2) :: Go.V.ins m k vs)
  by_cases q:a1=k
  ·rw[if_pos q,if_pos q];exact .cons ⟨rfl,iv⟩ (by assumption)
  ·rw[if_neg q,if_neg q];exact .cons ⟨rfl,h2⟩ ih
theorem QW.length {o:Ow} {h:Hp} {pv:List (Int × Value)} {pr:List (Int × List Vt)} (s:QW o h pv pr):pv.length=pr.length:=by
 induction s with
 | nil=>rfl
 | cons _ _ ih=>simp[ih]
theorem QW.Yp {o:Ow} {h:Hp} {pv:List (Int × Value)} {pr:List (Int × List Vt)} (s:QW o h pv pr) (k:Int):(Go.V.Yp pv k=none∧Go.V.Yp pr k=none)∨∃w vs,Go.V.Yp pv k=some w∧Go.V.Yp pr k=some vs∧ImV o h w vs:=by
 induction s with
 | nil=>exact .inl ⟨rfl,rfl⟩
 | @cons a b l m hab _ ih=>
  obtain⟨a1,a2⟩:=a
  obtain⟨b1,b2⟩:=b
  obtain⟨rfl,h2⟩:=hab
  unfold Go.V.Yp
  by_cases q:a1=k
  ·rw[if_pos q,if_pos q];exact .inr ⟨_,_,rfl,rfl,h2⟩
  ·rw[if_neg q,if_neg q];exact ih
theorem YH.ZoM {o:Ow} {i:Nat} {h:Hp} {ra:RA} {r:Jg} (s:YH o i h ra r) (d:Dom o h) {k:Int} {w:Value} {vs:List Vt} (iv:ImV o h w vs) :
  Kp (fun t=>t=.prom i) o h o (h.setIfInBounds ra.pb (Xk (ins ra.pv k w)))∧YH o i (h.setIfInBounds ra.pb (Xk (ins ra.pv k w))) { ra with pv:=ins ra.pv k w } { r with prom:=ins r.prom k vs }:=by
 have kk:Kp (fun t=>t=.prom i) o h o (h.setIfInBounds ra.pb (Xk (ins ra.pv k w))):=(Kp.refl d (fun t=>t=.prom i)).set s.prom.1 rfl _
 exact⟨kk,s.ZE.Zc kk (by intro e;cases e),⟨s.prom.1,Zu s.prom.2⟩,QW.Zc (QW.ins iv s.Zb7) kk,s.prop.Zc kk (by intro e;cases e),s.Xp.Zc kk (by intro e;cases e),s.Za9.Zc kk (fun _ e=>by cases e),s.keys⟩
theorem ZS.ZqF {o o':Ow} {h h':Hp} {wb i nb:Nat} {a:NA} {n:Nd} (s:ZS o h wb i nb a n) (k:Kp (fun t=>t=.Xb i) o h o' h') (hp:n.Zy=none):ZS o' h' wb i nb a n:=
 ⟨s.data.Zc k,s.YM.Zc k,s.Zh.Zc k (fun t ht=>by rcases ht with rfl|rfl|rfl|rfl|⟨z,rfl⟩<;>intro e<;>cases e),s.known.Zc k (by intro e;cases e),s.log.Zc k (by intro e;cases e),s.queue.Zc k (by intro e;cases e),s.waiting.Zc k (by intro e;cases e),s.inbox.Zc k (by intro e;cases e),by
  have:=s.Zy
  rw[hp]at this ⊢
  exact this,s.store⟩
theorem Zfk {n:Nd} {a:NA} {ra ra':RA} (r:Option Jg) (h:a.Zh=some ra) (hb:ra'.rb=ra.rb):Xc { n with Zh:=r } { a with Zh:=some ra' } = Xc n a:=by
 unfold Xc Ur
 simp only[h,Zda,hb]
def ZGJ (i:Nat) (t:Tg):Prop:=t=.node i∨t=.prom i∨t=.Xb i
theorem Zv8 (T:World) (h:Hp) (o:Ow) (wb i nb:Nat) (a:NA) (n:Nd) (acc:Qt) (vs:List Vt) (cur:Bool) (v:Value) (d:Dom o h)
  (N:ZJ o h wb i nb a n) (hp:n.Zy=none) (hv:ZBp o h i nb a.Zh v acc vs cur) :
  ∃b6 b4 b7 b5,v=fnV 97 [b6,b4,b7,b5]∧Zd Tryz.prog T 97 #[Zn b6,Zn b4,Zn b7,Zn b5] h fun v' h'=>∃o' a',Kp (ZGJ i) o h o' h'∧ZJ o' h' wb i nb a' { n with own:=acc,Zh:=if cur=true then n.Zh.map (fun r=>{ r with prom:=ins r.prom n.me vs }) else n.Zh }:=by
 obtain⟨b6,b4,b7,b5,w,rb,rfl,⟨wa,xa,ia⟩,x4,x7,iv,x5,ZBu⟩:=hv
 obtain⟨pa,ca,rfl⟩:=ia.isSlice
 obtain⟨pw,cw,rfl⟩:=iv.isSlice
 refine⟨b6,b4,b7,b5,rfl,?_⟩
 have hnb:=Za N.ZE.2
 refine Zd.Zi (args:=[_,_,_,_]) Tryz.func97 rfl rfl rfl rfl ?_
 unfold Zn
 have r4:hc h ⟨b4,0,none⟩=some (Zn nb):=Zg x4.2
 have r6:rd h ⟨b6,0,none⟩ 3=some [.int .i64 acc.p.r,.int .i64 acc.p.n,.slice pa acc.l.length ca]:=Zo xa.2 rfl
 obtain⟨g1,w1,N1,k1⟩:=ZS.write (a:={ a with YM:=.slice pa acc.l.length ca }) (n:={ n with own:=acc }) { N.pt with YM:=ia } d N.ZE ((YP N.ZE.2 N.pt.store.len).own acc.p.r acc.p.n (.slice pa acc.l.length ca) rfl)
 unfold Zn at r4
 simp -implicitDefEqProofs only[go_sem,↓reduceIte,r4,r6,w1,hnb]
 have y4:=x4.Zc k1
 have y5:=x5.Zc k1
 have y7:=x7.Zc k1
 have q4:hc g1 ⟨b4,0,none⟩=some (Zn nb):=Zg y4.2
 have q5:hc g1 ⟨b5,0,none⟩=some (Zn rb):=Zg y5.2
 have q7:hc g1 ⟨b7,0,none⟩=some (.slice pw vs.length cw):=Zg y7.2
 unfold Zn at q4 q5
 have l4:=Za y4.2
 have l5:=Za y5.2
 have l7:=Za y7.2
 have R1:=Zw N1.ZE.2 N1.pt.store.len
 have lnb:=Za N1.ZE.2
 have iv1:=iv.Zc k1
 refine VS.z (g1.size) [9] (.q 0 (.p 1 (.p 2 (.q 3 (.q 4 (.p 5 (.p 6 (.q 7 (.q 8 (.w 9 .nil)))))))))) mixed (by kernel_rfl) ?_
 cases cur with
 | true=>
  obtain⟨ra,hra,rfl⟩:=ZBu
  have hR:=N1.pt.Zh
  have ZqG:({ a with YM:=.slice pa acc.l.length ca }:NA).Zh=some ra:=hra
  rw[ZqG]at hR
  cases hr:n.Zh with
  | none=>rw[show ({ n with own:=acc }:Nd).Zh=none from hr]at hR;exact hR.elim
  | some r=>
   rw[show ({ n with own:=acc }:Nd).Zh=some r from hr]at hR
   have hR:YH o i g1 ra r:=hR
   have rr:hc g1 ⟨ra.rb,2,none⟩=some (.map (some ra.pb)):=Zg hR.ZE.2
   have lrb:=Za hR.ZE.2
   simp -implicitDefEqProofs only[go_sem,↓reduceIte,q4,q5,q7,l4,l5,l7,lnb,R1.me,rr,lrb]
   rw[XN Zfg hR.prom.2]
   simp -implicitDefEqProofs only[go_sem,↓reduceIte]
   obtain⟨k2,R2⟩:=hR.ZoM k1.ZU (k:=n.me) iv1
   have k2':Kp (XD i) o g1 o _:=k2.mono fun t q=>.inr (.inl q)
   refine⟨o,{ ({ a with YM:=.slice pa acc.l.length ca }:NA) with Zh:=some { ra with pv:=ins ra.pv n.me (.slice pw vs.length cw) } },(k1.mono fun t q=>.inl q).trans (k2.mono fun t q=>.inr (.inl q)),?_,?_⟩
   ·have:=N1.ZE.Zc k2 (by intro e;cases e)
    rw[←Zfk (some { r with prom:=ins r.prom n.me vs }) ZqG (ra':={ ra with pv:=ins ra.pv n.me (.slice pw vs.length cw) }) rfl]at this
    exact this
   ·exact ZS.Qp N1.pt k2' ZqG rfl R2
 | false=>
  obtain⟨cs,pb,pv,y1,y2,y3⟩:=ZBu
  have z1:=y1.Zc k1 (by intro e;cases e)
  have z3:=y3.Zc k1 (by intro e;cases e)
  have rr:hc g1 ⟨rb,2,none⟩=some (.map (some pb)):=by rw[ZaR z1.2];exact y2
  have lrb:=Za z1.2
  simp -implicitDefEqProofs only[go_sem,↓reduceIte,q4,q5,q7,l4,l5,l7,lnb,R1.me,rr,lrb]
  rw[XN Zfg z3.2]
  simp -implicitDefEqProofs only[go_sem,↓reduceIte]
  have k2:Kp (fun t=>t=.Xb i) o g1 o (g1.setIfInBounds pb (Xk (ins pv n.me (.slice pw vs.length cw)))):=(Kp.refl k1.ZU (fun t=>t=.Xb i)).set z3.1 rfl _
  exact⟨o,_,(k1.mono fun t q=>.inl q).trans (k2.mono fun t q=>.inr (.inr q)),N1.ZE.Zc k2 (by intro e;cases e),N1.pt.ZqF k2 hp⟩
end Go.Proofs.YtnhbpmoeaodmnaaGreatDoor

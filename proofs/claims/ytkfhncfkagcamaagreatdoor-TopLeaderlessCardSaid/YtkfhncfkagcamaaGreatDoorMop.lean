/- The nodes of a cluster, in plain words: what each piece of the program makes of them. Definitions alone. -/
import Derived.Test.YtkfhncfkagcamaaGreatDoorOpn
import Derived.Test.YtkfhncfkagcamaaGreatDoorMix
import Derived.Test.YtkfhncfkagcamaaGreatDoorChw
import Derived.Test.YtkfhncfkagcamaaGreatDoorPik
import Derived.Test.YtkfhncfkagcamaaGreatDoorW25
namespace Go.Proofs.YtkfhncfkagcamaaGreatDoor
open Go Go.V
set_option linter.unusedSimpArgs false
set_option linter.unusedVariables false
deriving instance DecidableEq for XK
deriving instance DecidableEq for Vt
deriving instance DecidableEq for Qd
abbrev Cm:=Qd
def oy:Cm:=⟨0,0,0,0,0⟩
def Qd.C (x:Qd):List Value:=Qc x.k x.c x.s x.n x.v
def Qd.err (x:Qd):Int:=YL x.k x.c x.s x.n x.v
def Vt.cm (v:Vt):Cm:=⟨v.k,v.c,v.s,v.nm,v.v⟩
def Tj (s:Int) (b:XK) (x:Cm):Vt:=⟨s,b,x.k,x.c,x.s,x.n,x.v⟩
def JA:XK:=⟨0,0⟩
structure Y2 where
 kind:Int
 Jl:Int
 to:Int
 b:XK
 v:Vt
 vs:List Vt
structure Qg where
 b:XK
 prom:List (Int × List Vt)
 begun:Bool
 prop:List (Int × Cm)
 Jm:List (Int × List (Int × Unit))
inductive fp where
 | Gy (a:Ww) (to:Int) (b:XK) (vs:List Vt)
 | Gz (a:Ww) (to:Int) (v:Vt)
 | own (a:Ww) (vs:List Vt) (cur:Bool)
structure Nd where
 me:Nat
 up:Bool
 data:List Nat
 Xe:Int
 own:Ww
 heard:XK
 Zj:Option Qg
 known:List (Int × Cm)
 log:List Cm
 store:List Value
 queue:List Cm
 waiting:List Cm
 inbox:List Y2
 ZS:Option fp
 Xj:Int
structure TV where
 node:Int
 c:Int
 s:Int
 code:Int
 val:Int
structure Wd where
 nodes:Nat→Nd
 Zn:List Y2
 bad:Nat→Int
 told:List TV
structure Out where
 n:Nd
 ls:List Y2
 ts:List TV
def Y1 (n:Nd) (l:Y2):Out:=
 if Yv n.own.p n.own.l l.b≠0 then ⟨n,[⟨7,n.me,l.Jl,n.own.p,TQ,[]⟩],[]⟩
 else if n.own.p=l.b then ⟨n,[⟨1,n.me,l.Jl,l.b,TQ,n.own.l⟩],[]⟩
 else if Qp n.data n.Xe l.b≠0 then ⟨n,[],[]⟩
 else ⟨{ n with data:=n.data++Y5 (Qq l.b),ZS:=some (.Gy ⟨l.b,n.own.l⟩ l.Jl l.b n.own.l) },[],[]⟩
def asked (n:Nd) (l:Y2):Out:=
 if YV n.own.p n.own.l l.v≠0 then ⟨n,[⟨7,n.me,l.Jl,n.own.p,TQ,[]⟩],[]⟩
 else if l.v∈n.own.l then ⟨n,[⟨3,n.me,l.Jl,JA,l.v,[]⟩],[]⟩
 else if Ug n.data n.Xe l.v≠0 then ⟨n,[],[]⟩
 else ⟨{ n with data:=n.data++Y5 (SD l.v),ZS:=some (.Gz ⟨l.v.b,Qv n.own.l l.v⟩ l.Jl l.v) },[],[]⟩
def GA (st:List Value) (x:Cm):List Value:=if PK st x=0 then (Vq st x).cells else Jr
def Rr (st:List Value) (x:Cm):Int:=if PK st x=0 then (Vq st x).code else 0
def LU (st:List Value) (x:Cm):Int:=if PK st x=0 then (Vq st x).val else 0
def UW (n:Nd) (x:Cm):Nd:={ n with log:=n.log++[x],store:=GA n.store x,queue:=n.queue.filter (fun y=>decide (y≠x)),waiting:=n.waiting.erase x }
def VT (n:Nd) (x:Cm):List TV:=if x∈n.waiting then [⟨n.me,x.c,x.s,Rr n.store x,LU n.store x⟩] else []
def YJ:Nat→Nd→Nd × List TV
 | 0,n=>(n,[])
 | k+1,n=>match Xc n.known n.log.length with
  | none=>(n,[])
  | some x=>((YJ k (UW n x)).1,VT n x++(YJ k (UW n x)).2)
def Uh (n:Nd) (s:Int) (x:Cm):Nd:={ n with known:=ins n.known s x }
def Ul (n:Nd) (s:Int) (x:Cm):Out:=
 ⟨(YJ ((Uh n s x).known.length+1) (Uh n s x)).1,[],(YJ ((Uh n s x).known.length+1) (Uh n s x)).2⟩
def yH (n:Nd) (r:Qg) (l:Y2):Nd:={ n with Zj:=some { r with prom:=ins r.prom l.Jl l.vs } }
def Tm (r:Qg) (l:Y2):List (Int × Unit):=ins ((Xc r.Jm l.v.slot).getD []) l.Jl ()
def N9 (n:Nd) (r:Qg) (l:Y2):Nd:={ n with Zj:=some { r with Jm:=ins r.Jm l.v.slot (Tm r l) } }
def Yz (n:Nd) (l:Y2):Out:=
 match n.Zj with
 | none=>⟨n,[],[]⟩
 | some r=>
  if l.kind=1 then (if l.b=r.b then ⟨yH n r l,[],[]⟩ else ⟨n,[],[]⟩)
  else if l.v.b≠r.b then ⟨n,[],[]⟩
  else if 5<2*(Tm r l).length then Ul (N9 n r l) l.v.slot l.v.cm
  else ⟨N9 n r l,[],[]⟩
def add (n:Nd) (x:Cm):Nd:=if x∈n.queue∨x∈n.log then n else { n with queue:=n.queue++[x] }
def notes (n:Nd) (l:Y2):Nd:=if below n.heard l.b then { n with heard:=l.b } else n
def Q4 (n:Nd) (l:Y2):Out:=
 match Xc n.known l.v.slot with
 | some x=>⟨notes n l,[⟨6,n.me,l.Jl,JA,Tj l.v.slot JA x,[]⟩],[]⟩
 | none=>⟨notes n l,[],[]⟩
def handle (n:Nd) (l:Y2):Out:=
 if l.kind=0 then Y1 n l else if l.kind=1∨l.kind=3 then Yz n l else if l.kind=2 then asked n l
 else if l.kind=4 then ⟨add n l.v.cm,[],[]⟩ else if l.kind=5 then Q4 n l else if l.kind=6 then Ul n l.v.slot l.v.cm else ⟨notes n l,[],[]⟩
def XE (r:Qg):List (List Vt):=(List.range 5).map fun (m:Nat)=>(Xc r.prom (m:Int)).getD []
def EV (l:List Vt):Int:=l.foldl (fun t v=>if t<v.slot then v.slot else t) (-1)
def EW (LL:List (List Vt)) (s:Int):Cm:=if Sq s LL.flatten=0 then (UT s LL.flatten).cm else oy
def QI (n:Nd) (LL:List (List Vt)) (pr:List (Int × Cm)) (s:Nat):List (Int × Cm):=if Xc n.known (s:Int)=none then ins pr (s:Int) (EW LL s) else pr
def TW (n:Nd) (r:Qg):Qg:=
 { r with prop:=(List.range' n.log.length ((EV (XE r).flatten+1).toNat-n.log.length)).foldl (QI n (XE r)) r.prop,begun:=true }
def Ui (n:Nd) (r:Qg) (x:Cm):Nat→Nat→Option Nat
 | 0,_=>none
 | k+1,s=>if Xc r.prop (s:Int)=some x∨Xc n.known (s:Int)=some x then none
  else if Xc r.prop (s:Int)=none∧Xc n.known (s:Int)=none then some s else Ui n r x k (s+1)
def free (n:Nd) (r:Qg) (x:Cm):Option Nat:=Ui n r x (40-n.log.length) n.log.length
def Vr (n:Nd) (r:Qg) (x:Cm):Qg:=match free n r x with|some s=>{ r with prop:=ins r.prop (s:Int) x }|none=>r
def JC (n:Nd) (r:Qg) (l:List Cm):Qg:=l.foldl (Vr n) r
def LV (n:Nd) (r:Qg):List Y2:=(List.range 5).flatMap fun (m:Nat)=>if Xc r.prom (m:Int)=none then [⟨0,n.me,m,r.b,TQ,[]⟩] else []
def PM (n:Nd) (r:Qg) (s:Nat) (x:Cm) (m:Nat):List Y2:=if Xc ((Xc r.Jm (s:Int)).getD []) (m:Int)=none then [⟨2,n.me,m,JA,Tj s r.b x,[]⟩] else []
def WN (n:Nd) (r:Qg) (s:Nat):List Y2:=match Xc r.prop (s:Int) with
 | some x=>if Xc n.known (s:Int)=none then (List.range 5).flatMap (PM n r s x) else []
 | none=>[]
def LW (n:Nd) (r:Qg):List Y2:=(List.range 40).flatMap (WN n r)
def LX (n:Nd) (r:Qg):Qg:=JC n (if r.begun=true then r else TW n r) n.queue
def Qw (n:Nd) (r:Qg):Out:=
 if below n.own.p r.b then
  (if Qp n.data n.Xe r.b≠0 then ⟨n,[],[]⟩ else
    ⟨{ n with data:=n.data++Y5 (Qq r.b),ZS:=some (.own (if Yv n.own.p n.own.l r.b=0 then ⟨r.b,n.own.l⟩ else Jk) (if Yv n.own.p n.own.l r.b=0 then n.own.l else []) true) },[],[]⟩)
 else if ¬5<2*r.prom.length then ⟨n,LV n r,[]⟩
 else ⟨{ n with Zj:=some (LX n r) },LW n (LX n r),[]⟩
def still (n:Nd):Nd:=match n.Zj with|some r=>if below r.b n.own.p then { n with Zj:=none } else n|none=>n
def TX (n:Nd):List Y2:=n.queue.map fun x=>⟨4,n.me,n.own.p.n,JA,Tj 0 JA x,[]⟩
def Yp (n:Nd):Out:=match n.Zj with
 | some r=>Qw n r
 | none=>if 0<n.own.p.r∧n.own.p.n≠n.me then ⟨n,TX n,[]⟩ else ⟨n,[],[]⟩
def Um (n:Nd):XK:=if below n.own.p n.heard then n.heard else n.own.p
def JV (n:Nd):Nd:={ n with Xj:=(n.Xj+1)%5 }
def WO (n:Nd):List Y2:=if n.Xj≠n.me∧n.log.length<40 then [⟨5,n.me,n.Xj,Um n,Tj n.log.length JA oy,[]⟩] else []
def Q6 (n:Nd):Out:=
 if (Yp (still n)).n.ZS.isSome=true then Yp (still n)
 else ⟨JV (Yp (still n)).n,(Yp (still n)).ls++WO (JV (Yp (still n)).n),[]⟩
def synced (n:Nd):Nd:={ n with data:=if YX n.data n.Xe then n.data else [],Xe:=if YX n.data n.Xe then (n.data.length:Int) else 0,ZS:=none }
def finish (n:Nd):fp→Out
 | .Gy a to b vs=>⟨{ n with own:=a },[⟨1,n.me,to,b,TQ,vs⟩],[]⟩
 | .Gz a to v=>⟨{ n with own:=a },[⟨3,n.me,to,JA,v,[]⟩],[]⟩
 | .own a vs cur=>⟨{ n with own:=a,Zj:=if cur=true then n.Zj.map (fun r=>{ r with prom:=ins r.prom n.me vs }) else n.Zj },[],[]⟩
def drain:Nd→List Y2→Out
 | n,[]=>⟨{ n with inbox:=[] },[],[]⟩
 | n,l :: k=>if n.ZS.isSome=true then ⟨{ n with inbox:=l :: k },[],[]⟩
  else ⟨(drain (handle { n with inbox:=k } l).n k).n,(handle { n with inbox:=k } l).ls++(drain (handle { n with inbox:=k } l).n k).ls,(handle { n with inbox:=k } l).ts++(drain (handle { n with inbox:=k } l).n k).ts⟩
def step (n:Nd):Out:=
 if n.up=true then (match n.ZS with
  | some p=>finish (synced n) p
  | none=>if (drain n n.inbox).n.ZS.isSome=true then drain n n.inbox
   else ⟨(Q6 (drain n n.inbox).n).n,(drain n n.inbox).ls++(Q6 (drain n n.inbox).n).ls,(drain n n.inbox).ts++(Q6 (drain n n.inbox).n).ts⟩)
 else ⟨n,[],[]⟩
def blank (i:Nat) (up:Bool) (data:List Nat) (Xe:Int) (own:Ww):Nd:=⟨i,up,data,Xe,own,JA,none,[],[],Jr,[],[],[],none,0⟩
def J8 (n:Nd):XK:=⟨match n.Zj with
 | some r=>max (max n.own.p.r n.heard.r+1) (r.b.r+1)
 | none=>max n.own.p.r n.heard.r+1,n.me⟩
def Xk:Option fp→Option fp
 | some (.own a vs _)=>some (.own a vs false)
 | p=>p
def lead (n:Nd):Nd:=if n.up=false∨65536<(J8 n).r then n else { n with Zj:=some ⟨J8 n,[],false,[],[]⟩,ZS:=Xk n.ZS }
def Te (rc:List Nat) (now:Int):Cm:=if Xf rc now=0 then ⟨Xo ((JH rc).drop 22) 0,Xo ((JH rc).drop 22) 1,Xo ((JH rc).drop 22) 2,Xo ((JH rc).drop 22) 3,Xo ((JH rc).drop 22) 4⟩ else oy
def LY (l:List Nat):Nat→Ww→Nat→Ww × Nat
 | 0,a,k=>(a,k)
 | f+1,a,k=>match Xn l a k with
  | none=>(a,k)
  | some x=>LY l f x.1 x.2
def UX (l:List Nat):Ww × Nat:=LY l (l.length+1) Jk 0
def Mx (l:List Nat) (n k:Int):Int:=n+(if (l.length:Int)-n<k then (l.length:Int)-n else k)
def crashed (i:Nat) (n:Nd) (Zd:Int):Nd:=
 if n.up=true then (if YX n.data n.Xe∧0≤Zd then blank i false (n.data.take (Mx n.data n.Xe Zd).toNat) (Mx n.data n.Xe Zd) Jk else blank i false [] 0 Jk) else n
def GB (l:List Nat) (n:Int):List Nat:=if YX l n then l.take (UX l).2 else []
def fq (l:List Nat) (n:Int):Int:=if YX l n then (if ((UX l).2:Int)<n then ((UX l).2:Int) else n) else 0
def started (i:Nat) (n:Nd):Nd:=
 if n.up=true then n else blank i true (GB n.data n.Xe) (fq n.data n.Xe) (if YX (GB n.data n.Xe) (fq n.data n.Xe) then (UX (GB n.data n.Xe)).1 else Jk)
structure Ac where
 kind:Int
 node:Nat
 at':Nat
 Zd:Int
 data:List Nat
def Wd.set (w:Wd) (i:Nat) (n:Nd):Wd:={ w with nodes:=fun j=>if j=i then n else w.nodes j }
def Wd.out (w:Wd) (i:Nat) (o:Out):Wd:={ nodes:=fun j=>if j=i then o.n else w.nodes j,Zn:=w.Zn++o.ls,bad:=w.bad,told:=w.told++o.ts }
def QX (w:Wd) (l:Y2):Wd:=if (w.nodes l.to.toNat).up=true then w.set l.to.toNat { w.nodes l.to.toNat with inbox:=(w.nodes l.to.toNat).inbox++[l] } else w
def pick (w:Wd) (at':Nat) (comes stays:Bool):Wd:=
 match w.Zn[at'%w.Zn.length]? with
 | none=>w
 | some l=>if comes=true then QX (if stays=true then w else { w with Zn:=w.Zn.eraseIdx (at'%w.Zn.length) }) l else (if stays=true then w else { w with Zn:=w.Zn.eraseIdx (at'%w.Zn.length) })
def OF (n:Nd) (x:Cm):Nd:=if x∈n.waiting then n else { n with waiting:=n.waiting++[x] }
def VU (w:Wd) (i:Nat) (data:List Nat):Wd:=
 if (w.nodes i).up=true then
  (if Xf data (w.nodes i).log.length≠0 then { w with bad:=fun j=>if j=i then w.bad i+1 else w.bad j }
  else if Te data (w.nodes i).log.length∈(w.nodes i).log then
   { w with told:=w.told++[⟨(w.nodes i).me,(Te data (w.nodes i).log.length).c,(Te data (w.nodes i).log.length).s,Rr (w.nodes i).store (Te data (w.nodes i).log.length),LU (w.nodes i).store (Te data (w.nodes i).log.length)⟩] }
  else w.set i (OF (add (w.nodes i) (Te data (w.nodes i).log.length)) (Te data (w.nodes i).log.length)))
 else w
def act (w:Wd) (a:Ac):Wd:=
 if a.kind=1 then VU w a.node a.data
 else if a.kind=2 then w.set a.node (lead (w.nodes a.node))
 else if a.kind=3 then w.out a.node (step (w.nodes a.node))
 else if a.kind=4∨a.kind=5∨a.kind=6 then pick w a.at' (decide (a.kind≠5)) (decide (a.kind=6))
 else if a.kind=7 then w.Zn.foldl QX { w with Zn:=[] }
 else if a.kind=8 then w.set a.node (crashed a.node (w.nodes a.node) a.Zd)
 else w.set a.node (started a.node (w.nodes a.node))
def TY:Wd:=⟨fun i=>blank i true [] 0 Jk,[],fun _=>0,[]⟩
def SE (l:List Ac):Wd:=l.foldl act TY
set_option maxRecDepth 100000
@[go_sem] theorem Vs:af Tryz.prog 133=some 47:=by kernel_rfl
@[go_sem] theorem NB:af Tryz.prog 178=some 129:=by kernel_rfl
@[go_sem] theorem LZ:af Tryz.prog 179=some 218:=by kernel_rfl
@[go_sem] theorem IY:af Tryz.prog 218=some 219:=by kernel_rfl
@[go_sem] theorem mz:af Tryz.prog 196=some 195:=by kernel_rfl
@[go_sem] theorem PN:uj Tryz.prog 47=some (.agg oy.C.toArray):=by kernel_rfl
@[go_sem] theorem mA:uj Tryz.prog 129=some (.slice none 0 0):=by kernel_rfl
@[go_sem] theorem IZ:uj Tryz.prog 218=some (.map none):=by kernel_rfl
@[go_sem] theorem uT:uj Tryz.prog 219=some (.agg #[]):=by kernel_rfl
@[go_sem] theorem ZdT:uj Tryz.prog 195=some .nilFunc:=by kernel_rfl
@[go_sem] theorem Zxv:tkp Tryz.prog 132=true:=by kernel_rfl
@[go_sem] theorem Zxw:tkm Tryz.prog 218=true:=by kernel_rfl
@[go_sem] theorem Zxx:qe Tryz.prog 1=true:=by kernel_rfl
inductive Tg where
 | world
 | nodes
 | Zn
 | told
 | node (i:Nat)
 | known (i:Nat)
 | log (i:Nat)
 | queue (i:Nat)
 | waiting (i:Nat)
 | inbox (i:Nat)
 | Zj (i:Nat)
 | prom (i:Nat)
 | prop (i:Nat)
 | Jm (i:Nat)
 | VV (i:Nat) (s:Int)
 | Xk (i:Nat)
def Tg.of:Tg→Option Nat
 | .world=>none
 | .nodes=>none
 | .Zn=>none
 | .told=>none
 | .node i=>some i
 | .known i=>some i
 | .log i=>some i
 | .queue i=>some i
 | .waiting i=>some i
 | .inbox i=>some i
 | .Zj i=>some i
 | .prom i=>some i
 | .prop i=>some i
 | .Jm i=>some i
 | .VV i _=>some i
 | .Xk i=>some i
abbrev Ow:=Nat→Option Tg
structure Im (o:Ow) (n:Nat) (h:Hp) (v:Value) (m:Nat) (cs:List Value):Prop where
 sl:Sl n h v m cs
 fits:∃p c,v=.slice p m c∧m≤c
 free:∀b,ZN v=some b→b<h.size∧o b=none
theorem Im.Zd {S:Tg→Prop} {o o':Ow} {n m:Nat} {h h':Hp} {v:Value} {cs:List Value} (s:Im o n h v m cs) (k:Kp S o h o' h'):Im o' n h' v m cs:=by
 obtain⟨⟨p,c,rfl,hl,nY⟩,⟨p',c',he,hm⟩,hf⟩:=s
 simp only[Value.slice.injEq,true_and]at he
 obtain⟨rfl,rfl⟩:=he
 have vQ:∀b,ZN (.slice p m c)=some b→b<h.size∧o b=none∧h'[b]? = h[b]? ∧ o' b=none:=fun b hb=>by
  obtain⟨h1,h2⟩:=hf b hb
  obtain⟨h3,h4⟩:=k.Zd b h1 fun t ht=>by rw[h2]at ht;cases ht
  exact⟨h1,h2,h3,by rw[h4,h2]⟩
 refine⟨⟨p,c,rfl,hl,fun Ys=>?_⟩,⟨p,c,rfl,hm⟩,fun b hb=>⟨Nat.lt_of_lt_of_le (vQ b hb).1 k.size,(vQ b hb).2.2.2⟩⟩
 obtain⟨b,off,rfl,YO⟩:=nY Ys
 have AZ:c≠0:=by
  intro e
  have:m=0:=by omega
  subst this
  exact Ys (List.eq_nil_of_length_eq_zero (by simpa using hl))
 have hb:ZN (.slice (some ⟨b,off,none⟩) m c)=some b:=by simp[ZN,AZ]
 refine⟨b,off,rfl,fun i hi=>?_⟩
 have:=YO i hi
 unfold hc at this ⊢
 rw[(vQ b hb).2.2.1]
 exact this
theorem Im.QJ {o:Ow} {B n m:Nat} {E:TypeId} {h:Hp} {v:Value} {cs:List Value} (s:Qb B E n h v m cs) (hd:∀b,B≤b→o b=none):Im o n h v m cs:=by
 refine⟨s.sl,?_,fun b hb=>?_⟩
 ·rcases s with⟨⟨p,rfl⟩,rfl,_⟩|⟨b,cap,sp,_,rfl,_,_,_,hm⟩
  ·exact⟨p,0,rfl,Nat.le_refl _⟩
  ·exact⟨_,cap,rfl,hm⟩
 ·exact⟨s.lt b hb,hd b (s.ZE b hb)⟩
theorem Im.nil (o:Ow) (n:Nat) (h:Hp) (p:Option Addr):Im o n h (.slice p 0 0) 0 []:=
 ⟨⟨p,0,rfl,by simp,fun Ys=>absurd rfl Ys⟩,⟨p,0,rfl,Nat.le_refl _⟩,fun b hb=>by cases p<;>simp[ZN]at hb⟩
def U6 (o:Ow) (h:Hp) (v:Value) (l:List Vt):Prop:=Im o 8 h v l.length (Zz Zo l)
def Vz (o:Ow) (h:Hp) (v:Value) (l:List Nat):Prop:=Im o 1 h v l.length (l.map bv)∧∀x∈l,x<256
theorem U6.ts {o:Ow} {h:Hp} {v:Value} {l:List Vt} (s:U6 o h v l):Ts Zo 8 h v l:=⟨Im.sl s⟩
theorem Vz.bs {o:Ow} {h:Hp} {v:Value} {l:List Nat} (s:Vz o h v l):Bs h v l:=⟨s.1.sl,s.2⟩
theorem U6.Zd {S:Tg→Prop} {o o':Ow} {h h':Hp} {v:Value} {l:List Vt} (s:U6 o h v l) (k:Kp S o h o' h'):U6 o' h' v l:=Im.Zd s k
theorem Vz.Zd {S:Tg→Prop} {o o':Ow} {h h':Hp} {v:Value} {l:List Nat} (s:Vz o h v l) (k:Kp S o h o' h'):Vz o' h' v l:=⟨s.1.Zd k,s.2⟩
def YR (l:Y2) (w:Value):List Value:=[.int .i64 l.kind,.int .i64 l.Jl,.int .i64 l.to,.int .i64 l.b.r,.int .i64 l.b.n,.int .i64 l.v.slot,.int .i64 l.v.b.r,.int .i64 l.v.b.n,.int .i64 l.v.k,.int .i64 l.v.c,.int .i64 l.v.s,.int .i64 l.v.nm,.int .i64 l.v.v,w]
def NC (x:Y2 × Value):List Value:=YR x.1 x.2
def L0 (t:TV):List Value:=[.int .i64 t.node,.int .i64 t.c,.int .i64 t.s,.int .i64 t.code,.int .i64 t.val]
def Zp (b:Nat):Value:=.pointer (some ⟨b,0,none⟩)
def Wx (x:Cm):Value:=.agg x.C.toArray
def Qr (o:Ow) (t:Tg) (h:Hp) (v:Value) (l:List Cm):Prop:=Yt o t 47 5 h v l.length (Zz Qd.C l)
def Qz (o:Ow) (t:Tg) (h:Hp) (v:Value) (l:List Y2):Prop:=
 ∃xs:List (Y2 × Value),xs.map (·.1)=l∧Yt o t 163 14 h v xs.length (Zz NC xs)∧∀x∈xs,U6 o h x.2 x.1.vs
theorem Qr.Zd {S:Tg→Prop} {o o':Ow} {t:Tg} {h h':Hp} {v:Value} {l:List Cm} (s:Qr o t h v l) (k:Kp S o h o' h') (hn:¬S t):Qr o' t h' v l:=Yt.Zd s k hn
theorem Qz.Zd {S:Tg→Prop} {o o':Ow} {t:Tg} {h h':Hp} {v:Value} {l:List Y2} (s:Qz o t h v l) (k:Kp S o h o' h') (hn:¬S t):Qz o' t h' v l:=by
 obtain⟨xs,h1,h2,h3⟩:=s
 exact⟨xs,h1,h2.Zd k hn,fun x hx=>(h3 x hx).Zd k⟩
def J9 (o:Ow) (t:Tg) (h:Hp) (b:Nat) (l:List (Int × Value)):Prop:=o b=some t∧h[b]? = some (Xi l)
theorem J9.Zd {S:Tg→Prop} {o o':Ow} {t:Tg} {h h':Hp} {b:Nat} {l:List (Int × Value)} (s:J9 o t h b l) (k:Kp S o h o' h') (hn:¬S t):J9 o' t h' b l:=by
 have SO:∀u,o b=some u→¬S u:=fun u hu=>by rw[s.1]at hu;cases hu;exact hn
 exact⟨by rw[k.own s.2 SO,s.1],k.get s.2 SO⟩
def QA (o:Ow) (t:Tg) (h:Hp) (b:Nat) (x:Obj):Prop:=o b=some t∧h[b]? = some x
theorem QA.Zd {S:Tg→Prop} {o o':Ow} {t:Tg} {h h':Hp} {b:Nat} {x:Obj} (s:QA o t h b x) (k:Kp S o h o' h') (hn:¬S t):QA o' t h' b x:=by
 have SO:∀u,o b=some u→¬S u:=fun u hu=>by rw[s.1]at hu;cases hu;exact hn
 exact⟨by rw[k.own s.2 SO,s.1],k.get s.2 SO⟩
def ZM (o:Ow) (h:Hp) (b:Nat) (x:Obj):Prop:=o b=none∧h[b]? = some x
theorem ZM.Zd {S:Tg→Prop} {o o':Ow} {h h':Hp} {b:Nat} {x:Obj} (s:ZM o h b x) (k:Kp S o h o' h'):ZM o' h' b x:=(k.free s.2 s.1).symm
def QK (o:Ow) (h:Hp) (pv:List (Int × Value)) (pr:List (Int × List Vt)):Prop:=FJ (fun x y=>x.1=y.1∧U6 o h x.2 y.2) pv pr
theorem QK.Zd {S:Tg→Prop} {o o':Ow} {h h':Hp} {pv:List (Int × Value)} {pr:List (Int × List Vt)} (s:QK o h pv pr) (k:Kp S o h o' h'):QK o' h' pv pr:=by
 induction s with
 | nil=>exact .nil
 | cons a _ ih=>exact .cons ⟨a.1,a.2.Zd k⟩ ih
def Ma (l:List (Int × Unit)):List (Int × Value):=Ue (fun _=>.agg #[]) l
def QB (o:Ow) (i:Nat) (h:Hp) (sv:List (Int × Nat)) (vt:List (Int × List (Int × Unit))):Prop:=FJ (fun x y=>x.1=y.1∧J9 o (.VV i y.1) h x.2 (Ma y.2)) sv vt
theorem QB.Zd {S:Tg→Prop} {o o':Ow} {i:Nat} {h h':Hp} {sv:List (Int × Nat)} {vt:List (Int × List (Int × Unit))} (s:QB o i h sv vt) (k:Kp S o h o' h') (hn:∀s,¬S (.VV i s)):QB o' i h' sv vt:=by
 induction s with
 | nil=>exact .nil
 | cons a _ ih=>exact .cons ⟨a.1,a.2.Zd k (hn _)⟩ ih
def oB (b:Nat):Value:=.map (some b)
structure RA where
 rb:Nat
 pb:Nat
 qb:Nat
 vb:Nat
 pv:List (Int × Value)
 sv:List (Int × Nat)
def BX (r:Qg) (a:RA):List Value:=[.int .i64 r.b.r,.int .i64 r.b.n,.map (some a.pb),.bool r.begun,.map (some a.qb),.map (some a.vb)]
structure YC (o:Ow) (i:Nat) (h:Hp) (a:RA) (r:Qg):Prop where
 ZE:QA o (.Zj i) h a.rb (.cells (BX r a).toArray 181)
 prom:J9 o (.prom i) h a.pb a.pv
 TZ:QK o h a.pv r.prom
 prop:J9 o (.prop i) h a.qb (Ue Wx r.prop)
 Jm:J9 o (.Jm i) h a.vb (Ue oB a.sv)
 VW:QB o i h a.sv r.Jm
 keys:(a.sv.map (·.1)).Nodup
def XA (i:Nat) (t:Tg):Prop:=t=.Zj i∨t=.prom i∨t=.prop i∨t=.Jm i∨∃s,t=.VV i s
theorem YC.Zd {S:Tg→Prop} {o o':Ow} {i:Nat} {h h':Hp} {a:RA} {r:Qg} (s:YC o i h a r) (k:Kp S o h o' h') (hn:∀t,XA i t→¬S t):YC o' i h' a r:=
 ⟨s.ZE.Zd k (hn _ (.inl rfl)),s.prom.Zd k (hn _ (.inr (.inl rfl))),s.TZ.Zd k,s.prop.Zd k (hn _ (.inr (.inr (.inl rfl)))),s.Jm.Zd k (hn _ (.inr (.inr (.inr (.inl rfl))))),s.VW.Zd k (fun s=>hn _ (.inr (.inr (.inr (.inr ⟨s,rfl⟩))))),s.keys⟩
def Rs:Option RA→Value
 | some a=>Zp a.rb
 | none=>.pointer none
def rM (o:Ow) (i:Nat) (h:Hp):Option RA→Option Qg→Prop
 | some a,some r=>YC o i h a r
 | none,none=>True
 | _,_=>False
theorem rM.Zd {S:Tg→Prop} {o o':Ow} {i:Nat} {h h':Hp} {a:Option RA} {r:Option Qg} (s:rM o i h a r) (k:Kp S o h o' h') (hn:∀t,XA i t→¬S t):rM o' i h' a r:=by
 cases a<;>cases r<;>first|exact s|exact YC.Zd s k hn
def Wb (f:FuncId) (l:List Nat):Value:=.func (.func f) #[] (l.map Zp).toArray
def mB (o:Ow) (h:Hp) (wb nb:Nat) (v:Value) (to:Int) (b:XK) (vs:List Vt):Prop:=
 ∃b3 b4 b5 b7 l w5 w,v=Wb 122 [b3,b4,b5,b7]∧ZM o h b3 (.cells [Zp wb].toArray 117)∧ZM o h b4 (.cells [Zp nb].toArray 124) ∧
  ZM o h b5 (.cells (YR l w5).toArray 163)∧l.Jl=to∧l.b=b∧ZM o h b7 (.cells [w].toArray 129)∧U6 o h w vs
def mC (o:Ow) (h:Hp) (wb nb:Nat) (v:Value) (to:Int) (x:Vt):Prop:=
 ∃b3 b4 b5 l w5,v=Wb 127 [b3,b4,b5]∧ZM o h b3 (.cells [Zp wb].toArray 117)∧ZM o h b4 (.cells [Zp nb].toArray 124) ∧
  ZM o h b5 (.cells (YR l w5).toArray 163)∧l.Jl=to∧l.v=x
theorem mB.Zd {S:Tg→Prop} {o o':Ow} {h h':Hp} {wb nb:Nat} {v:Value} {to:Int} {b:XK} {vs:List Vt} (s:mB o h wb nb v to b vs) (k:Kp S o h o' h'):mB o' h' wb nb v to b vs:=by
 obtain⟨b3,b4,b5,b7,l,w5,w,h1,h2,h3,h4,h5,h6,h7,h8⟩:=s
 exact⟨b3,b4,b5,b7,l,w5,w,h1,h2.Zd k,h3.Zd k,h4.Zd k,h5,h6,h7.Zd k,h8.Zd k⟩
theorem mC.Zd {S:Tg→Prop} {o o':Ow} {h h':Hp} {wb nb:Nat} {v:Value} {to:Int} {x:Vt} (s:mC o h wb nb v to x) (k:Kp S o h o' h'):mC o' h' wb nb v to x:=by
 obtain⟨b3,b4,b5,l,w5,h1,h2,h3,h4,h5,h6⟩:=s
 exact⟨b3,b4,b5,l,w5,h1,h2.Zd k,h3.Zd k,h4.Zd k,h5,h6⟩
def T1 (o:Ow) (h:Hp) (b:Nat) (a:Ww):Prop:=∃w,ZM o h b (.cells (YD a.p w).toArray 131)∧U6 o h w a.l
theorem T1.Zd {S:Tg→Prop} {o o':Ow} {h h':Hp} {b:Nat} {a:Ww} (s:T1 o h b a) (k:Kp S o h o' h'):T1 o' h' b a:=by
 obtain⟨w,h1,h2⟩:=s
 exact⟨w,h1.Zd k,h2.Zd k⟩
def ZdU (o:Ow) (h:Hp) (i nb:Nat) (ra:Option RA) (v:Value) (a:Ww) (vs:List Vt) (cur:Bool):Prop:=
 ∃b6 b4 b7 b5 w rb,v=Wb 131 [b6,b4,b7,b5]∧T1 o h b6 a∧ZM o h b4 (.cells [Zp nb].toArray 124)∧ZM o h b7 (.cells [w].toArray 129)∧U6 o h w vs ∧
  ZM o h b5 (.cells [Zp rb].toArray 132) ∧
  (if cur=true then ∃a,ra=some a∧a.rb=rb else ∃cs pb pv,QA o (.Xk i) h rb (.cells cs 181)∧cs[2]? = some (.map (some pb))∧J9 o (.Xk i) h pb pv)
def Q7 (o:Ow) (h:Hp) (wb i nb:Nat) (ra:Option RA):Value→Option fp→Prop
 | v,none=>v=.nilFunc
 | v,some (.Gy a to b vs)=>∃b6 b4 b9 u,v=Wb 124 [b6,b4,b9]∧T1 o h b6 a∧ZM o h b4 (.cells [Zp nb].toArray 124)∧ZM o h b9 (.cells [u].toArray 1)∧mB o h wb nb u to b vs
 | v,some (.Gz a to x)=>∃b6 b4 b9 u,v=Wb 130 [b6,b4,b9]∧T1 o h b6 a∧ZM o h b4 (.cells [Zp nb].toArray 124)∧ZM o h b9 (.cells [u].toArray 1)∧mC o h wb nb u to x
 | v,some (.own a vs cur)=>ZdU o h i nb ra v a vs cur
theorem Q7.Zd {S:Tg→Prop} {o o':Ow} {h h':Hp} {wb i nb:Nat} {ra:Option RA} {v:Value} {p:Option fp} (s:Q7 o h wb i nb ra v p) (k:Kp S o h o' h') (hn:¬S (.Xk i)):Q7 o' h' wb i nb ra v p:=by
 match p,s with
 | none,s=>exact s
 | some (.Gy a to b vs),⟨b6,b4,b9,u,h1,h2,h3,h4,h5⟩=>exact⟨b6,b4,b9,u,h1,h2.Zd k,h3.Zd k,h4.Zd k,h5.Zd k⟩
 | some (.Gz a to x),⟨b6,b4,b9,u,h1,h2,h3,h4,h5⟩=>exact⟨b6,b4,b9,u,h1,h2.Zd k,h3.Zd k,h4.Zd k,h5.Zd k⟩
 | some (.own a vs cur),⟨b6,b4,b7,b5,w,rb,h1,h2,h3,h4,h5,h6,h7⟩=>
  refine⟨b6,b4,b7,b5,w,rb,h1,h2.Zd k,h3.Zd k,h4.Zd k,h5.Zd k,h6.Zd k,?_⟩
  cases cur with
  | true=>exact h7
  | false=>
   obtain⟨cs,pb,pv,g1,g2,g3⟩:=h7
   exact⟨cs,pb,pv,g1.Zd k hn,g2,g3.Zd k hn⟩
structure NA where
 data:Value
 YG:Value
 Zj:Option RA
 known:Nat
 log:Value
 queue:Value
 waiting:Value
 inbox:Value
 ZS:Value
def Un (n:Nd) (a:NA):List Value:=[.int .i64 n.me,.bool n.up,a.data,.int .i64 n.Xe,.int .i64 n.own.p.r,.int .i64 n.own.p.n,a.YG,.int .i64 n.heard.r,.int .i64 n.heard.n,Rs a.Zj,.map (some a.known),a.log]++(n.store++[a.queue,a.waiting,a.inbox,a.ZS,.int .i64 n.Xj])
def Y8 (n:Nd) (a:NA):Obj:=.cells (Un n a).toArray 135
structure PO (cs:List Value):Prop where
 fit:Yq XT cs=true
 num:∀i,i<32→nth cs i=some (.int .i64 (ci cs i))
 yes:∀i,32≤i→i<40→nth cs i=some (.bool (cb cs i))
structure ZV (o:Ow) (h:Hp) (wb i nb:Nat) (a:NA) (n:Nd):Prop where
 data:Vz o h a.data n.data
 YG:U6 o h a.YG n.own.l
 Zj:rM o i h a.Zj n.Zj
 known:J9 o (.known i) h a.known (Ue Wx n.known)
 log:Qr o (.log i) h a.log n.log
 queue:Qr o (.queue i) h a.queue n.queue
 waiting:Qr o (.waiting i) h a.waiting n.waiting
 inbox:Qz o (.inbox i) h a.inbox n.inbox
 ZS:Q7 o h wb i nb a.Zj a.ZS n.ZS
 store:PO n.store
structure ZJ (o:Ow) (h:Hp) (wb i nb:Nat) (a:NA) (n:Nd):Prop where
 ZE:QA o (.node i) h nb (Y8 n a)
 pt:ZV o h wb i nb a n
theorem OG {i:Nat} {t:Tg} (h:XA i t):t.of=some i:=by
 rcases h with rfl|rfl|rfl|rfl|⟨s,rfl⟩<;>rfl
section
variable {S:Tg→Prop} {o o':Ow} {h h':Hp} {wb i nb:Nat} {a:NA} {n:Nd}
theorem ZV.Zd (s:ZV o h wb i nb a n) (k:Kp S o h o' h') (hn:∀t,S t→t.of≠some i∨t=.node i):ZV o' h' wb i nb a n:=by
 have q:∀t:Tg,t.of=some i→t ≠ .node i→¬S t:=fun t ht Ys hs=>(hn t hs).elim (fun q=>q ht) Ys
 exact⟨s.data.Zd k,s.YG.Zd k,s.Zj.Zd k (fun t ht=>q t (OG ht) (by rcases ht with rfl|rfl|rfl|rfl|⟨z,rfl⟩<;>intro e<;>cases e)),s.known.Zd k (q _ rfl (by intro e;cases e)),s.log.Zd k (q _ rfl (by intro e;cases e)),s.queue.Zd k (q _ rfl (by intro e;cases e)),s.waiting.Zd k (q _ rfl (by intro e;cases e)),s.inbox.Zd k (q _ rfl (by intro e;cases e)),s.ZS.Zd k (q _ rfl (by intro e;cases e)),s.store⟩
theorem ZJ.Zd (s:ZJ o h wb i nb a n) (k:Kp S o h o' h') (hn:∀t,S t→t.of≠some i):ZJ o' h' wb i nb a n:=
 ⟨s.ZE.Zd k fun q=>hn _ q rfl,s.pt.Zd k fun t ht=>.inl (hn t ht)⟩
theorem ZV.put (s:ZV o h wb i nb a n) (d:Q8 o h) {x:Obj} (b:QA o (.node i) h nb x):ZJ o (h.setIfInBounds nb (Y8 n a)) wb i nb a n:=
 ⟨⟨b.1,Zv b.2⟩,s.Zd ((Kp.refl d (fun t=>t=.node i)).set b.1 rfl _) fun t ht=>.inr ht⟩
theorem ZV.write (s:ZV o h wb i nb a n) (d:Q8 o h) {x:Obj} (b:QA o (.node i) h nb x) {e:Option Hp} (w:e=some (h.setIfInBounds nb (Y8 n a))):∃g,e=some g∧ZJ o g wb i nb a n∧Kp (fun t=>t=.node i) o h o g:=
 ⟨_,w,s.put d b,(Kp.refl d (fun t=>t=.node i)).set b.1 rfl _⟩
theorem ZV.I0 (s:ZV o h wb i nb a n) (k:Kp (fun t=>t=.queue i) o h o' h') {v:Value} {l:List Cm} (hv:Qr o' (.queue i) h' v l):ZV o' h' wb i nb { a with queue:=v } { n with queue:=l }:=
 ⟨s.data.Zd k,s.YG.Zd k,s.Zj.Zd k (fun t ht=>by rcases ht with rfl|rfl|rfl|rfl|⟨z,rfl⟩<;>intro e<;>cases e),s.known.Zd k (by intro e;cases e),s.log.Zd k (by intro e;cases e),hv,s.waiting.Zd k (by intro e;cases e),s.inbox.Zd k (by intro e;cases e),s.ZS.Zd k (by intro e;cases e),s.store⟩
theorem ZV.rN (s:ZV o h wb i nb a n) (k:Kp (fun t=>t=.log i) o h o' h') {v:Value} {l:List Cm} (hv:Qr o' (.log i) h' v l):ZV o' h' wb i nb { a with log:=v } { n with log:=l }:=
 ⟨s.data.Zd k,s.YG.Zd k,s.Zj.Zd k (fun t ht=>by rcases ht with rfl|rfl|rfl|rfl|⟨z,rfl⟩<;>intro e<;>cases e),s.known.Zd k (by intro e;cases e),hv,s.queue.Zd k (by intro e;cases e),s.waiting.Zd k (by intro e;cases e),s.inbox.Zd k (by intro e;cases e),s.ZS.Zd k (by intro e;cases e),s.store⟩
theorem ZV.NF (s:ZV o h wb i nb a n) (k:Kp (fun t=>t=.waiting i) o h o' h') {v:Value} {l:List Cm} (hv:Qr o' (.waiting i) h' v l):ZV o' h' wb i nb { a with waiting:=v } { n with waiting:=l }:=
 ⟨s.data.Zd k,s.YG.Zd k,s.Zj.Zd k (fun t ht=>by rcases ht with rfl|rfl|rfl|rfl|⟨z,rfl⟩<;>intro e<;>cases e),s.known.Zd k (by intro e;cases e),s.log.Zd k (by intro e;cases e),s.queue.Zd k (by intro e;cases e),hv,s.inbox.Zd k (by intro e;cases e),s.ZS.Zd k (by intro e;cases e),s.store⟩
theorem ZV.fu (s:ZV o h wb i nb a n) (k:Kp (fun t=>t=.inbox i) o h o' h') {v:Value} {l:List Y2} (hv:Qz o' (.inbox i) h' v l):ZV o' h' wb i nb { a with inbox:=v } { n with inbox:=l }:=
 ⟨s.data.Zd k,s.YG.Zd k,s.Zj.Zd k (fun t ht=>by rcases ht with rfl|rfl|rfl|rfl|⟨z,rfl⟩<;>intro e<;>cases e),s.known.Zd k (by intro e;cases e),s.log.Zd k (by intro e;cases e),s.queue.Zd k (by intro e;cases e),s.waiting.Zd k (by intro e;cases e),hv,s.ZS.Zd k (by intro e;cases e),s.store⟩
theorem ZV.fv (s:ZV o h wb i nb a n) (k:Kp (fun t=>t=.known i) o h o' h') {v:Nat} {l:List (Int × Cm)} (hv:J9 o' (.known i) h' v (Ue Wx l)):ZV o' h' wb i nb { a with known:=v } { n with known:=l }:=
 ⟨s.data.Zd k,s.YG.Zd k,s.Zj.Zd k (fun t ht=>by rcases ht with rfl|rfl|rfl|rfl|⟨z,rfl⟩<;>intro e<;>cases e),hv,s.log.Zd k (by intro e;cases e),s.queue.Zd k (by intro e;cases e),s.waiting.Zd k (by intro e;cases e),s.inbox.Zd k (by intro e;cases e),s.ZS.Zd k (by intro e;cases e),s.store⟩
theorem ZV.Qa (s:ZV o h wb i nb a n) (k:Kp (XA i) o h o' h') {ra ra':RA} {r':Qg} (hr:a.Zj=some ra) (BY:ra'.rb=ra.rb) (hv:YC o' i h' ra' r'):ZV o' h' wb i nb { a with Zj:=some ra' } { n with Zj:=some r' }:=by
 have q:∀t,t.of=some i→(¬ ∃u,t=u∧XA i u)→¬XA i t:=fun t _ h2 h3=>h2 ⟨t,rfl,h3⟩
 have e:∀t:Tg,(t=.known i∨t=.log i∨t=.queue i∨t=.waiting i∨t=.inbox i∨t=.Xk i)→¬XA i t:=by
  intro t ht hr
  rcases ht with rfl|rfl|rfl|rfl|rfl|rfl<;>rcases hr with e|e|e|e|⟨s,e⟩<;>cases e
 refine⟨s.data.Zd k,s.YG.Zd k,hv,s.known.Zd k (e _ (by simp)),s.log.Zd k (e _ (by simp)),s.queue.Zd k (e _ (by simp)),s.waiting.Zd k (e _ (by simp)),s.inbox.Zd k (e _ (by simp)),?_,s.store⟩
 have hp:=s.ZS.Zd k (e _ (by simp))
 show Q7 o' h' wb i nb (some ra') a.ZS n.ZS
 rw[hr]at hp
 match hn:n.ZS,hp with
 | none,hp=>exact hp
 | some (.Gy _ _ _ _),hp=>exact hp
 | some (.Gz _ _ _),hp=>exact hp
 | some (.own _ _ cur),⟨b6,b4,b7,b5,w,rb,h1,h2,h3,h4,h5,h6,h7⟩=>
  refine⟨b6,b4,b7,b5,w,rb,h1,h2,h3,h4,h5,h6,?_⟩
  cases cur with
  | false=>exact h7
  | true=>
   obtain⟨c,hc,hcr⟩:=h7
   obtain rfl:=Option.some.inj hc
   exact⟨ra',rfl,BY.trans hcr⟩
end
structure WA where
 nodes:Value
 Zn:Value
 told:Value
def Y6 (bad:Nat→Int) (a:WA):List Value:=[a.nodes,a.Zn,.int .i64 0,.bool false,.bool false,.bool false,.bool false,.bool false,.slice none 0 0,.int .i64 (bad 0),.int .i64 (bad 1),.int .i64 (bad 2),.int .i64 (bad 3),.int .i64 (bad 4),a.told]
structure ZG (o:Ow) (h:Hp) (wb:Nat) (nb:Nat→Nat) (a:WA) (fl:List Y2) (bad:Nat→Int) (told:List TV):Prop where
 ZE:QA o .world h wb (.cells (Y6 bad a).toArray 123)
 nodes:Yt o .nodes 124 1 h a.nodes 5 [Zp (nb 0),Zp (nb 1),Zp (nb 2),Zp (nb 3),Zp (nb 4)]
 Zn:Qz o .Zn h a.Zn fl
 told:Yt o .told 42 5 h a.told told.length (Zz L0 told)
theorem ZG.Zd {S:Tg→Prop} {o o':Ow} {h h':Hp} {wb:Nat} {nb:Nat→Nat} {a:WA} {fl:List Y2} {bad:Nat→Int} {told:List TV} (s:ZG o h wb nb a fl bad told) (k:Kp S o h o' h') (hn:∀t,S t→t.of≠none):ZG o' h' wb nb a fl bad told:=
 ⟨s.ZE.Zd k fun q=>hn _ q rfl,s.nodes.Zd k fun q=>hn _ q rfl,s.Zn.Zd k fun q=>hn _ q rfl,s.told.Zd k fun q=>hn _ q rfl⟩
def Qh (t:Tg):Prop:=False
section
variable {S:Tg→Prop} {o o':Ow} {h h':Hp}
theorem ZD (d:Q8 o h) (b:Zg h.size h h'):Kp Qh o h o h':=Kp.Le d b _
theorem ZF (k:Kp Qh o h o' h'):Kp S o h o' h':=k.mono fun _ q=>q.elim
theorem ZJ.still {wb i nb:Nat} {a:NA} {n:Nd} (s:ZJ o h wb i nb a n) (k:Kp Qh o h o' h'):ZJ o' h' wb i nb a n:=s.Zd k fun _ q=>q.elim
theorem ZG.still {wb:Nat} {nb:Nat→Nat} {a:WA} {fl:List Y2} {bad:Nat→Int} {told:List TV} (s:ZG o h wb nb a fl bad told) (k:Kp Qh o h o' h'):ZG o' h' wb nb a fl bad told:=s.Zd k fun _ q=>q.elim
theorem ZY (d:Q8 o h) (x:Obj):Kp Qh o h o (h.push x):=(Kp.refl d _).push x
end
structure DO (o:Ow) (h:Hp):Prop where
 tk:Tk h
 tn:FE 0 niv Td h
 fk:o 1=none
 fn:o 0=none
theorem GC {S:Tg→Prop} {o o':Ow} {h h':Hp} {g:Nat} {f:Nat→Value} {l:List Nat} (t:FE g f l h) (hf:o g=none) (k:Kp S o h o' h'):FE g f l h'∧o' g=none:=by
 obtain⟨h1,h2⟩:=k.Zd g t.1 fun t ht=>by rw[hf]at ht;cases ht
 refine⟨⟨Nat.lt_of_lt_of_le t.1 k.size,fun i hi=>?_⟩,by rw[h2,hf]⟩
 have:=t.2 i hi
 unfold hc at this ⊢
 rw[h1];exact this
theorem DO.Zd {S:Tg→Prop} {o o':Ow} {h h':Hp} (t:DO o h) (k:Kp S o h o' h'):DO o' h':=
 ⟨(GC t.tk t.fk k).1,(GC t.tn t.fn k).1,(GC t.tk t.fk k).2,(GC t.tn t.fn k).2⟩
theorem PO.len {cs:List Value} (s:PO cs):cs.length=40:=by
 have:=YE s.fit
 rw[this];rfl
theorem PO.one {cs:List Value} (s:PO cs):cs.all Z8=true:=M3 s.fit
theorem mD (a:Option RA):Z8 (Rs a)=true:=by cases a<;>rfl
section
variable {h:Hp} {nb:Nat} {n:Nd} {a:NA}
structure yI (h:Hp) (nb:Nat) (n:Nd) (a:NA):Prop where
 me:hc h ⟨nb,0,none⟩=some (.int .i64 n.me)
 up:hc h ⟨nb,1,none⟩=some (.bool n.up)
 tape:rd h ⟨nb,2,none⟩ 2=some [a.data,.int .i64 n.Xe]
 own:rd h ⟨nb,4,none⟩ 3=some [.int .i64 n.own.p.r,.int .i64 n.own.p.n,a.YG]
 EX:rd h ⟨nb,4,none⟩ 2=some [.int .i64 n.own.p.r,.int .i64 n.own.p.n]
 Zmc:hc h ⟨nb,4,none⟩=some (.int .i64 n.own.p.r)
 Zxz:hc h ⟨nb,5,none⟩=some (.int .i64 n.own.p.n)
 YG:hc h ⟨nb,6,none⟩=some a.YG
 heard:rd h ⟨nb,7,none⟩ 2=some [.int .i64 n.heard.r,.int .i64 n.heard.n]
 yJ:hc h ⟨nb,7,none⟩=some (.int .i64 n.heard.r)
 Zj:hc h ⟨nb,9,none⟩=some (Rs a.Zj)
 known:hc h ⟨nb,10,none⟩=some (.map (some a.known))
 log:hc h ⟨nb,11,none⟩=some a.log
 store:rd h ⟨nb,12,none⟩ 40=some n.store
 queue:hc h ⟨nb,52,none⟩=some a.queue
 waiting:hc h ⟨nb,53,none⟩=some a.waiting
 inbox:hc h ⟨nb,54,none⟩=some a.inbox
 ZS:hc h ⟨nb,55,none⟩=some a.ZS
 Xj:hc h ⟨nb,56,none⟩=some (.int .i64 n.Xj)
theorem I1 (hs:n.store.length=40):(Un n a).length=57:=by
 unfold Un
 rw[List.length_append,List.length_append,hs];rfl
theorem T2 (hs:n.store.length=40) (k:Nat):nth (Un n a) (52+k)=nth [a.queue,a.waiting,a.inbox,a.ZS,.int .i64 n.Xj] k:=by
 unfold Un
 rw[Yk,Yk,List.getElem?_append_right (by simp;omega),List.getElem?_append_right (by simp;omega)]
 congr 1
 simp
 omega
theorem Zy (H:h[nb]? = some (Y8 n a)) (hs:n.store.length=40):yI h nb n a:=by
 have l57:=I1 (a:=a) hs
 have c:∀k,hc h ⟨nb,k,none⟩=nth (Un n a) k:=fun k=>Zh H
 have r:∀k m,k+m≤57→rd h ⟨nb,k,none⟩ m=some (((Un n a).drop k).take m):=fun k m hk=>Z5 H (by rw[l57];exact hk)
 refine⟨c 0,c 1,r 2 2 (by omega),r 4 3 (by omega),r 4 2 (by omega),c 4,c 5,c 6,r 7 2 (by omega),c 7,c 9,c 10,c 11,?_,(c 52).trans (T2 hs 0),(c 53).trans (T2 hs 1),(c 54).trans (T2 hs 2),(c 55).trans (T2 hs 3),(c 56).trans (T2 hs 4)⟩
 rw[r 12 40 (by omega)]
 congr 1
 unfold Un
 rw[List.drop_append_of_le_length (by simp)]
 simp only[List.drop_succ_cons,List.drop_nil,List.drop_zero,List.nil_append]
 rw[←hs,List.take_left']
 rfl
structure yK (h:Hp) (nb:Nat) (n:Nd) (a:NA):Prop where
 up:∀v,Jh h ⟨nb,1,none⟩ (.bool v)=some (h.setIfInBounds nb (Y8 { n with up:=v } a))
 tape:∀d s,Z8 d=true→wr h ⟨nb,2,none⟩ [d,.int .i64 s]=some (h.setIfInBounds nb (Y8 { n with Xe:=s } { a with data:=d }))
 own:∀r k w,Z8 w=true→wr h ⟨nb,4,none⟩ [.int .i64 r,.int .i64 k,w]=some (h.setIfInBounds nb (Y8 { n with own:=⟨⟨r,k⟩,n.own.l⟩ } { a with YG:=w }))
 heard:∀r k,wr h ⟨nb,7,none⟩ [.int .i64 r,.int .i64 k]=some (h.setIfInBounds nb (Y8 { n with heard:=⟨r,k⟩ } a))
 Zj:∀b,Jh h ⟨nb,9,none⟩ (Rs b)=some (h.setIfInBounds nb (Y8 n { a with Zj:=b }))
 log:∀v,Z8 v=true→Jh h ⟨nb,11,none⟩ v=some (h.setIfInBounds nb (Y8 n { a with log:=v }))
 store:∀cs:List Value,cs.length=40→cs.all Z8=true→wr h ⟨nb,12,none⟩ cs=some (h.setIfInBounds nb (Y8 { n with store:=cs } a))
 queue:∀v,Z8 v=true→Jh h ⟨nb,52,none⟩ v=some (h.setIfInBounds nb (Y8 n { a with queue:=v }))
 waiting:∀v,Z8 v=true→Jh h ⟨nb,53,none⟩ v=some (h.setIfInBounds nb (Y8 n { a with waiting:=v }))
 inbox:∀v,Z8 v=true→Jh h ⟨nb,54,none⟩ v=some (h.setIfInBounds nb (Y8 n { a with inbox:=v }))
 ZS:∀v,Z8 v=true→Jh h ⟨nb,55,none⟩ v=some (h.setIfInBounds nb (Y8 n { a with ZS:=v }))
 Xj:∀k,Jh h ⟨nb,56,none⟩ (.int .i64 k)=some (h.setIfInBounds nb (Y8 { n with Xj:=k } a))
theorem set_tail (pre mid l:List Value) (k:Nat) (v:Value) (hk:pre.length+mid.length=52):(pre++(mid++l)).set (52+k) v=pre++(mid++l.set k v):=by
 rw[List.set_append_right _ _ (by omega),List.set_append_right _ _ (by omega)]
 congr 3
 omega
theorem YK (H:h[nb]? = some (Y8 n a)) (hs:n.store.length=40):yK h nb n a:=by
 have l57:=I1 (a:=a) hs
 have w1:∀(k:Nat) (v:Value) (n':Nd) (a':NA),k<57→Z8 v=true→(Un n a).set k v=Un n' a'→Jh h ⟨nb,k,none⟩ v=some (h.setIfInBounds nb (Y8 n' a')):=fun k v n' a' hk hv he=>by
  rw[Yr H,if_pos ⟨by rw[l57];exact hk,hv⟩,he];rfl
 have w:∀(k:Nat) (vs:List Value) (n':Nd) (a':NA),k+vs.length≤57→vs.all Z8=true→Yn (Un n a) k vs=Un n' a'→wr h ⟨nb,k,none⟩ vs=some (h.setIfInBounds nb (Y8 n' a')):=fun k vs n' a' hk hv he=>by
  rw[ZR H,if_pos ⟨by rw[l57];exact hk,hv⟩,he];rfl
 refine⟨fun v=>w1 _ _ _ _ (by omega) rfl rfl,fun d s hd=>w _ _ _ _ (by simp) (by rw[List.all_cons,hd];rfl) rfl,fun r k v hv=>w _ _ _ _ (by simp) (by simp only[List.all_cons,hv];rfl) rfl,fun r k=>w _ _ _ _ (by simp) (by simp[Z8]) rfl,fun b=>w1 _ _ _ _ (by omega) (mD b) rfl,fun v hv=>w1 _ _ _ _ (by omega) hv rfl,fun cs hl Xb=>w _ _ _ _ (by omega) Xb ?_,
  fun v hv=>w1 _ _ _ _ (by omega) hv ?_,fun v hv=>w1 _ _ _ _ (by omega) hv ?_,fun v hv=>w1 _ _ _ _ (by omega) hv ?_,fun v hv=>w1 _ _ _ _ (by omega) hv ?_,fun k=>w1 _ _ _ _ (by omega) rfl ?_⟩
 ·unfold Un
  exact Wk rfl (by rw[hl,hs])
 all_goals
  unfold Un
  first
   | exact set_tail _ _ _ 0 _ (by rw[hs];rfl)
   | exact set_tail _ _ _ 1 _ (by rw[hs];rfl)
   | exact set_tail _ _ _ 2 _ (by rw[hs];rfl)
   | exact set_tail _ _ _ 3 _ (by rw[hs];rfl)
   | exact set_tail _ _ _ 4 _ (by rw[hs];rfl)
end
section
variable {h:Hp} {wb:Nat} {bad:Nat→Int} {a:WA}
structure rO (h:Hp) (wb:Nat) (bad:Nat→Int) (a:WA):Prop where
 nodes:hc h ⟨wb,0,none⟩=some a.nodes
 Zn:hc h ⟨wb,1,none⟩=some a.Zn
 told:hc h ⟨wb,14,none⟩=some a.told
 out:rd h ⟨wb,2,none⟩ 13=some [.int .i64 0,.bool false,.bool false,.bool false,.bool false,.bool false,.slice none 0 0,.int .i64 (bad 0),.int .i64 (bad 1),.int .i64 (bad 2),.int .i64 (bad 3),.int .i64 (bad 4),a.told]
 GD:∀v,Z8 v=true→Jh h ⟨wb,1,none⟩ v=some (h.setIfInBounds wb (.cells (Y6 bad { a with Zn:=v }).toArray 123))
 uU:∀v,Z8 v=true→Jh h ⟨wb,14,none⟩ v=some (h.setIfInBounds wb (.cells (Y6 bad { a with told:=v }).toArray 123))
 yL:∀v,Z8 v=true→Jh h ⟨wb,0,none⟩ v=some (h.setIfInBounds wb (.cells (Y6 bad { a with nodes:=v }).toArray 123))
theorem YS (H:h[wb]? = some (.cells (Y6 bad a).toArray 123)):rO h wb bad a:=by
 refine⟨Zh H,Zh H,Zh H,Z5 H (by simp[Y6]),fun v hv=>?_,fun v hv=>?_,fun v hv=>?_⟩
 all_goals
  rw[Yr H,if_pos ⟨by simp[Y6],hv⟩]
  rfl
end
theorem Im.isSlice {o:Ow} {n:Nat} {h:Hp} {v:Value} {m:Nat} {cs:List Value} (s:Im o n h v m cs):∃p c,v=.slice p m c:=by
 obtain⟨p,c,h,_⟩:=s.fits;exact⟨p,c,h⟩
theorem QV {α:Type} (enc:α→List Value) (x:α):Zz enc [x]=enc x:=by simp[Zz]
def aQ (t:Tg):Prop:=t=.world∨t=.Zn
theorem Uy (T:World) (h:Hp) (o:Ow) (wb nb:Nat) (Z6:Nat→Nat) (me:Nat) (YA:WA) (fl:List Y2) (bad:Nat→Int) (told:List TV) (to:Int) (l:Y2) (w:Value) (d:Q8 o h)
  (W:ZG o h wb Z6 YA fl bad told) (oC:hc h ⟨nb,0,none⟩=some (.int .i64 me)) (WX:nb<h.size) (iv:U6 o h w l.vs) (Ym:fl.length≤1000000000000) :
  Zc Tryz.prog T 113 #[Zp wb,Zp nb,.int .i64 to,.agg (YR l w).toArray] h fun v' h'=>∃o' Xq,Kp aQ o h o' h'∧(∀b,b<h.size→o' b=o b)∧ZG o' h' wb Z6 Xq (fl++[⟨l.kind,me,to,l.b,l.v,l.vs⟩]) bad told:=by
 obtain⟨p,c,hw⟩:=iv.isSlice
 have Xb:Z8 w=true:=by rw[hw];rfl
 have GF:=Za W.ZE.2
 have R0:=YS W.ZE.2
 refine Zc.Zi (args:=[_,_,_,_]) Tryz.func113 rfl rfl rfl rfl ?_
 unfold Zp YR
 have e1:nb≠h.size:=by omega
 have e2:wb≠h.size:=by omega
 simp -implicitDefEqProofs only[go_sem,↓reduceIte,Se,e1,oC]
 refine VS.z (h.size+1) [7,10] (.p 0 (.p 1 (.p 2 (.p 3 (.q 4 (.q 5 (.s 6 (.w 7 (.p 8 (.p 9 (.w 10 .nil))))))))))) mixed (by kernel_rfl) ?_
 simp -implicitDefEqProofs only[go_sem,↓reduceIte,Se,AY,e1,e2,oC,R0.Zn,GF]
 obtain⟨h1,Yw⟩:=ZA (h.push (.cells (YR ⟨l.kind,me,to,l.b,l.v,l.vs⟩ w).toArray 163):Hp)
 have s1:h1.size=h.size+1:=by rw[Yw];simp
 obtain⟨h2,U3⟩:=ZA (h1.push (.cells (YR ⟨l.kind,me,to,l.b,l.v,l.vs⟩ w).toArray 163):Hp)
 have ee:((h.push (.cells (YR ⟨l.kind,me,to,l.b,l.v,l.vs⟩ w).toArray 163)).push (.cells (YR ⟨l.kind,me,to,l.b,l.v,l.vs⟩ w).toArray 163))=h2:=by rw[U3,Yw]
 unfold YR at ee
 simp only at ee
 refine⟨Zg.push (by simp) _,?_⟩
 rw[ee]
 have k2:Kp (fun _=>False) o h o h2:=by rw[U3,Yw];exact ((Kp.refl d _).push _).push _
 have W2:=W.Zd k2 (fun _ q=>q.elim)
 have gW:=iv.Zd k2
 obtain⟨xs,Qf,Rj,Bp⟩:=W2.Zn
 have GV:xs.length=fl.length:=by rw[←Qf,List.length_map]
 have src:Sl 14 h2 (.slice (some ⟨h.size+1,0,none⟩) 1 1) 1 (YR ⟨l.kind,me,to,l.b,l.v,l.vs⟩ w):=by
  rw[U3,←s1];exact Sl.made (by simp[YR]) 1
 refine XQ (E:=163) (n:=14) (bytes:=128) (k:=1) HU Tryz.underlying121 jX ai rfl ur Rj k2.ZX src (by rw[YR,List.all_eq_true];intro x hx;simp at hx;rcases hx with rfl|rfl|rfl|rfl|rfl|rfl|rfl|rfl|rfl|rfl|rfl|rfl|rfl|rfl<;>first|rfl|exact Xb) (by omega) (by omega) ?_
 intro v' o3 h3 w3 k3 q3
 have b3:=W2.ZE.Zd k3 (by intro q;cases q)
 have R3:=YS b3.2
 obtain⟨p3,c3,rfl,_⟩:=w3.isSlice
 have hw3:=Za b3.2
 have e3:=R3.GD (.slice p3 (xs.length+1) c3) rfl
 simp -implicitDefEqProofs only[go_sem,↓reduceIte,e3]
 have k4:Kp aQ o h o3 h3:=(k2.mono fun _ q=>q.elim).trans (k3.mono fun u q=>.inr q)
 have k5:=k4.set b3.1 (.inl rfl) (.cells (Y6 bad { YA with Zn:=.slice p3 (xs.length+1) c3 }).toArray 123)
 have kk:Kp (fun u=>u=.world) o3 h3 o3 (h3.setIfInBounds wb (.cells (Y6 bad { YA with Zn:=.slice p3 (xs.length+1) c3 }).toArray 123)):=(Kp.refl k3.ZX (fun u=>u=.world)).set b3.1 rfl _
 refine⟨o3,{ YA with Zn:=.slice p3 (xs.length+1) c3 },k5,fun b hb=>q3 b (by have:=k2.size;omega),⟨b3.1,Zv b3.2⟩,(W2.nodes.Zd k3 (by intro q;cases q)).Zd kk (by intro q;cases q),⟨xs++[(⟨l.kind,me,to,l.b,l.v,l.vs⟩,w)],?_,?_,fun x hx=>?_⟩,(W2.told.Zd k3 (by intro q;cases q)).Zd kk (by intro q;cases q)⟩
 ·rw[List.map_append,Qf];rfl
 ·have:=w3.Zd kk (by intro q;cases q)
  rw[Yf,QV,List.length_append]
  exact this
 ·rcases List.mem_append.1 hx with hx|hx
  ·exact ((Bp x hx).Zd k3).Zd kk
  ·have:x=(⟨l.kind,me,to,l.b,l.v,l.vs⟩,w):=by simpa using hx
   subst this
   exact (gW.Zd k3).Zd kk
@[go_sem] theorem Zme (x:Cm):Yq [some .i64,some .i64,some .i64,some .i64,some .i64] x.C=true:=rfl
@[go_sem] theorem Zmf (x y:Cm):leq x.C y.C=decide (x=y):=by
 obtain⟨a,b,c,d,e⟩:=x
 obtain⟨a',b',c',d',e'⟩:=y
 unfold Qd.C Qc
 rw[Bool.eq_iff_iff]
 simp[leq,zZ,Qd.mk.injEq]
@[go_sem] theorem PQ (x:Cm):x.C.length=5:=rfl
@[go_sem] theorem mE (x:Cm):x.C.all Z8=true:=rfl
@[go_sem] theorem Zhu (x:Cm):Yn [.int .i64 0,.int .i64 0,.int .i64 0,.int .i64 0,.int .i64 0] 0 x.C=x.C:=rfl
theorem Jw {h:Hp} {v:Value} {l:List Cm} (s:Ts Qd.C 5 h v l):∃p c,v=.slice p l.length c∧(l≠[]→∃b o,p=some ⟨b,o,none⟩∧b<h.size∧∀i (hi:i<l.length),rd h ⟨b,o+i*5,none⟩ 5=some (l[i]).C):=by
 obtain⟨p,c,hv,hh⟩:=s.open PQ (by decide)
 refine⟨p,c,hv,fun Ys=>?_⟩
 obtain⟨b,o,h1,h2,h3⟩:=hh Ys
 exact⟨b,o,h1,h2,fun i hi=>(h3 i hi).rd (by simp[Qd.C,Qc]) rfl⟩
def Vu (l:List Cm) (x:Cm):Int:=if x∈l then (l.idxOf x:Int) else -1
theorem mF {l:List Cm} {x:Cm} {i:Nat} (hi:i<l.length) (he:l[i]=x) (hn:∀j (hj:j<l.length),j<i→l[j]≠x):l.idxOf x=i:=by
 have hx:x∈l:=he▸List.getElem_mem hi
 have h1:l.idxOf x<l.length:=List.idxOf_lt_length_of_mem hx
 have h2:l[l.idxOf x]=x:=List.getElem_idxOf h1
 rcases Nat.lt_trichotomy (l.idxOf x) i with h|h|h
 ·exact absurd h2 (hn _ h1 h)
 ·exact h
 ·have:=List.not_of_lt_findIdx (p:=(· == x)) (xs:=l) (i:=i) h
  simp[he]at this
theorem aR {l:List Cm} {x:Cm} {i:Nat} (hi:i<l.length) (he:l[i]=x) (hn:∀j (hj:j<l.length),j<i→l[j]≠x):Vu l x=i:=by
 unfold Vu
 rw[if_pos (he▸List.getElem_mem hi),mF hi he hn]
theorem I3 {l:List Cm} {x:Cm} (hn:∀j (hj:j<l.length),l[j]≠x):Vu l x = -1:=by
 unfold Vu
 rw[if_neg fun hm=>by obtain⟨j,hj,he⟩:=List.getElem_of_mem hm;exact hn j hj he]
theorem PS (l:List Cm) (x:Cm):0≤Vu l x↔x∈l:=by
 unfold Vu
 split
 ·rename_i h;exact⟨fun _=>h,fun _=>by omega⟩
 ·rename_i h;exact⟨fun q=>by omega,fun q=>absurd q h⟩
theorem L1 (T:World) (h:Hp) (v:Value) (l:List Cm) (x:Cm) (s:Ts Qd.C 5 h v l) (hl:l.length≤4611686018427387904) :
  Zc Tryz.prog T 91 #[v,Wx x] h fun v' h'=>v'=.int .i64 (Vu l x)∧Zg h.size h h':=by
 obtain⟨p,c,rfl,YO⟩:=Jw s
 refine Zc.Zi (args:=[_,_]) Tryz.func91 rfl rfl rfl rfl ?_
 unfold Wx
 simp -implicitDefEqProofs only[go_sem,↓reduceIte]
 obtain⟨h1,Yw⟩:=ZA (h.push (.cells x.C.toArray 47):Hp)
 have b1:Zg h.size h h1:=by rw[Yw];exact Zg.push (Nat.le_refl _) _
 have x1:h1[h.size]? = some (.cells x.C.toArray 47):=by rw[Yw];exact Zb
 rw[←Yw]
 clear Yw
 refine VS.ZW (fun F g=>g=h1∧F 0=.slice p l.length c∧F 3=.pointer (some ⟨h.size,0,none⟩)∧F 7=.int .i64 l.length∧∃i:Nat,i≤l.length∧F 8=.int .i64 i∧∀j (hj:j<l.length),j<i→l[j]≠x)
  (fun F _=>l.length-(vi (F 8)).toNat) rfl ⟨rfl,rfl,rfl,rfl,0,by omega,rfl,fun j hj q=>by omega⟩ ?_
 rintro F g ⟨rfl,f0,f3,f7,i,hi,f8,Y3⟩
 by_cases ZC:i<l.length
 ·have ZL:(i:Int)<l.length:=by omega
  obtain⟨bb,oo,rfl,UP,Ga⟩:=YO (by intro e;rw[e]at ZC;simp at ZC)
  have r1:rd g ⟨bb,oo+i*5,none⟩ 5=some (l[i]).C:=by rw[JI b1 (by exact UP)];exact Ga i ZC
  have r0:rd g ⟨h.size,0,none⟩ 5=some x.C:=Zq x1 rfl
  simp -implicitDefEqProofs only[go_sem,↓reduceIte,f0,f3,f7,f8,ZL]
  refine VS.q mixed (by kernel_rfl) ?_
  simp -implicitDefEqProofs only[go_sem,↓reduceIte,f0,f3,f7,f8,ZL,r1,r0]
  by_cases q:l[i]=x
  ·have e:=aR ZC q Y3
   rw[q]
   simp -implicitDefEqProofs only[go_sem,↓reduceIte,e,b1]
  ·have q':¬x=l[i]:=fun e=>q e.symm
   simp -implicitDefEqProofs only[go_sem,↓reduceIte,q',f0,f3,f7,f8]
   refine⟨⟨rfl,f0,f3,f7,i+1,ZC,rfl,fun j hj We=>?_⟩,?_⟩
   ·by_cases e:j=i
    ·subst e;exact q
    ·exact Y3 j hj (by omega)
   ·simp only[vi,Zl,↓reduceIte,f8];omega
 ·have YF:¬(i:Int)<l.length:=by omega
  have e:=I3 (l:=l) (x:=x) fun j hj=>Y3 j hj (by omega)
  simp -implicitDefEqProofs only[go_sem,↓reduceIte,f7,f8,YF,e,b1]
theorem WQ (T:World) (h:Hp) (v:Value) (l:List Cm) (x:Cm) (s:Ts Qd.C 5 h v l) (hl:l.length≤4611686018427387904) :
  Zc Tryz.prog T 93 #[v,Wx x] h fun v' h'=>v'=.bool (decide (x∈l))∧Zg h.size h h':=by
 obtain⟨p,c,rfl,YO⟩:=Jw s
 refine Zc.Zi (args:=[_,_]) Tryz.func93 rfl rfl rfl rfl ?_
 unfold Wx
 simp -implicitDefEqProofs only[go_sem,↓reduceIte]
 refine (L1 T _ _ l x (s.Z9 ((Zg.refl _ _).add _)) hl).use ?_
 rintro _ h2 ⟨rfl,b2⟩
 have b:Zg h.size h h2:=((Zg.refl _ _).add _).trans (b2.mono (by simp))
 simp -implicitDefEqProofs only[go_sem,↓reduceIte,PS,b]
theorem I4 (T:World) (h:Hp) (b:Nat) (x y:Cm) (hb:h[b]? = some (.cells x.C.toArray 47)) :
  Zc Tryz.prog T 146 #[Wx y,Zp b] h fun v' h'=>v'=.bool (decide (y=x))∧Zg h.size h h':=by
 have ZC:=Za hb
 refine Zc.Zi (args:=[_,_]) Tryz.func146 rfl rfl rfl rfl ?_
 unfold Wx Zp
 have Ys:b≠h.size:=by omega
 have r0:rd (h.push (.cells y.C.toArray 47)) ⟨h.size,0,none⟩ 5=some y.C:=Zq Zb rfl
 have r1:rd (h.push (.cells y.C.toArray 47)) ⟨b,0,none⟩ 5=some x.C:=Zq (by rw[Zs ZC];exact hb) rfl
 simp -implicitDefEqProofs only[go_sem,↓reduceIte,r0,r1]
def NH (b:Nat):Value:=Wb 146 [b]
theorem L4 (T:World) (h:Hp) (v:Value) (l:List Cm) (b:Nat) (x:Cm) (s:Ts Qd.C 5 h v l) (hb:h[b]? = some (.cells x.C.toArray 47)) (hl:l.length≤4611686018427387904) :
  Zc Tryz.prog T 148 #[v,NH b] h fun v' h'=>v'=.int .i64 (Vu l x)∧Zg h.size h h':=by
 obtain⟨p,c,rfl,YO⟩:=Jw s
 refine Zc.Zi (args:=[_,_]) Tryz.func148 rfl rfl rfl rfl ?_
 have ZC:=Za hb
 unfold NH Wb
 simp -implicitDefEqProofs only[go_sem,↓reduceIte]
 refine VS.ZW (fun F g=>Zg h.size h g∧F 0=.slice p l.length c∧F 1=NH b∧F 7=.int .i64 l.length∧∃i:Nat,i≤l.length∧F 8=.int .i64 i∧∀j (hj:j<l.length),j<i→l[j]≠x)
  (fun F _=>l.length-(vi (F 8)).toNat) rfl ⟨Zg.refl _ _,rfl,rfl,rfl,0,by omega,rfl,fun j hj q=>by omega⟩ ?_
 rintro F g ⟨hg,f0,f1,f7,i,hi,f8,Y3⟩
 by_cases ZC:i<l.length
 ·have ZL:(i:Int)<l.length:=by omega
  obtain⟨bb,oo,rfl,UP,Ga⟩:=YO (by intro e;rw[e]at ZC;simp at ZC)
  have r1:rd g ⟨bb,oo+i*5,none⟩ 5=some (l[i]).C:=by rw[JI hg (by exact UP)];exact Ga i ZC
  unfold NH Wb at f1
  simp only[List.map]at f1
  simp -implicitDefEqProofs only[go_sem,↓reduceIte,f0,f1,f7,f8,ZL,r1]
  refine (I4 T g b x l[i] (hg.get (by omega) hb)).use ?_
  rintro _ g1 ⟨rfl,b1⟩
  have Oa:Zg h.size h g1:=hg.trans (b1.mono hg.size)
  by_cases q:l[i]=x
  ·have e:=aR ZC q Y3
   simp -implicitDefEqProofs only[go_sem,↓reduceIte,q,f8,e,Oa]
  ·simp -implicitDefEqProofs only[go_sem,↓reduceIte,q,f0,f1,f7,f8]
   refine⟨⟨Oa,f0,f1,f7,i+1,ZC,rfl,fun j hj We=>?_⟩,?_⟩
   ·by_cases e:j=i
    ·subst e;exact q
    ·exact Y3 j hj (by omega)
   ·simp only[vi,Zl,↓reduceIte,f8];omega
 ·have YF:¬(i:Int)<l.length:=by omega
  have e:=I3 (l:=l) (x:=x) fun j hj=>Y3 j hj (by omega)
  simp -implicitDefEqProofs only[go_sem,↓reduceIte,f7,f8,YF,e,hg]
theorem EY (T:World) (h:Hp) (o:Ow) (t:Tg) (v:Value) (m i:Nat) (cs:List Value) (s:Yt o t 47 5 h v m cs) (d:Q8 o h) (Xb:cs.all Z8=true) (hi:i<m) (hm:m≤4611686018427387904) :
  Zc Tryz.prog T 149 #[v,.int .i64 i,.int .i64 ((i:Int)+1)] h fun v' h'=>Yt o t 47 5 h' v' (m-1) (cs.take (i*5)++cs.drop ((i+1)*5))∧Kp (fun u=>u=t) o h o h':=by
 rcases s with⟨⟨p,rfl⟩,rfl,rfl⟩|⟨b,off,cap,pre,spare,h1,rfl,h3,h4,h5,h6,h7⟩
 ·omega
 refine Zc.Zi (args:=[_,_,_]) Tryz.func149 rfl rfl rfl rfl ?_
 have e1:(i:Int)≤m:=by omega
 have e2:(i:Int)+1≤m:=by omega
 have e3:(m:Int)≤cap:=by omega
 have e4:(i:Int)≠i+1:=by omega
 have e5:((i:Int)+1).toNat=i+1:=by omega
 have e6:(0:Int)≤i+1:=by omega
 have e7:(i:Int)≤i+1:=by omega
 have e8:(i:Int)≤cap:=by omega
 have c0:cap≠0:=by omega
 simp -implicitDefEqProofs only[go_sem,↓reduceIte,e1,e2,e3,e4,e5,e6,e7,e8]
 refine VS.z (h.size) [6] (.p 0 (.p 1 (.p 2 (.p 3 (.p 4 (.p 5 (.w 6 (.p 7 .nil)))))))) mixed (by kernel_rfl) ?_
 simp -implicitDefEqProofs only[go_sem,↓reduceIte,e1,e2,e3,e4,e5,e6,e7,e8,c0]
 have hin:i*5≤m*5:=Nat.mul_le_mul_right _ (by omega)
 have Zmg:(i+1)*5≤m*5:=Nat.mul_le_mul_right _ (by omega)
 have gK:m*5≤cap*5:=Nat.mul_le_mul_right _ h7
 have ZE:h[b]? = some (.cells (pre++(cs.take (i*5)++(cs.drop (i*5)++spare))).toArray 47 (0,0)):=by
  rw[←List.append_assoc (List.take _ _),List.take_append_drop];exact h3
 have src:Sl 5 h (.slice (if cap=i+1 then some ⟨b,off,none⟩ else some ⟨b,off+(i+1)*5,none⟩) (m-(i+1)) (cap-(i+1))) (m-(i+1)) (cs.drop ((i+1)*5)):=by
  have:=(Yt.tail (k:=i+1) (.inr ⟨b,off,cap,pre,spare,h1,rfl,h3,h4,h5,h6,h7⟩:Yt o t 47 5 h (.slice (some ⟨b,off,none⟩) m cap) m cs) (by omega)).sl
  rw[Option.map_some,YQ]at this
  exact this
 have nl:(cs.drop ((i+1)*5)).length=(m-(i+1))*5:=by rw[List.length_drop,h5,Nat.sub_mul]
 refine Lf (E:=47) (n:=5) (m:=i) (k:=m-(i+1)) (cs:=cs.take (i*5)) FL Tryz.underlying37 wU jW ZE h4.symm (by rw[List.length_take];omega) src (List.all_eq_true.2 fun x hx=>List.all_eq_true.1 Xb x (List.mem_of_mem_drop hx)) (by omega) (by rw[List.length_append,List.length_drop,h5,←Nat.sub_mul];have:(m-(i+1))*5≤(m-i)*5:=Nat.mul_le_mul_right _ (by omega);omega) ?_
 obtain⟨g,hg⟩:=ZA (h.setIfInBounds b (.cells (pre++((cs.take (i*5)++cs.drop ((i+1)*5))++(cs.drop (i*5)++spare).drop ((m-(i+1))*5))).toArray 47 (0,0)):Hp)
 rw[←hg]
 have kg:Kp (fun u=>u=t) o h o g:=by rw[hg];exact (Kp.refl d (fun u=>u=t)).set h1 rfl _
 have gb:=Zv (o:=.cells (pre++((cs.take (i*5)++cs.drop ((i+1)*5))++(cs.drop (i*5)++spare).drop ((m-(i+1))*5))).toArray 47 (0,0)) h3
 rw[←hg]at gb
 have e9:i+(m-(i+1))=m-1:=by omega
 have f1:((m-1:Nat):Int)≤m:=by omega
 have f2:(0:Int)≤((m-1:Nat):Int):=by omega
 have f3:cap≠m-1:=by omega
 have f4:(((m-1:Nat):Int)).toNat=m-1:=by omega
 have f5:(0:Int)≤m:=by omega
 have f6:((m-1:Nat):Int)≤cap:=by omega
 rw[e9]
 simp -implicitDefEqProofs only[go_sem,↓reduceIte,e3,f1,f2,f3,f4,f5,f6]
 have tl:((cs.drop (i*5)++spare).drop ((m-(i+1))*5)).length=5+spare.length:=by
  rw[List.length_drop,List.length_append,List.length_drop,h5]
  have:(m-(i+1))*5+5=m*5-i*5:=by rw[←Nat.sub_mul,←Nat.succ_mul];congr 1;omega
  omega
 obtain⟨tail,ht⟩:=ZA ((cs.drop (i*5)++spare).drop ((m-(i+1))*5))
 rw[←ht]at gb tl
 obtain⟨body,Bc⟩:=ZA (cs.take (i*5)++cs.drop ((i+1)*5))
 have bl:body.length=(m-1)*5:=by
  rw[Bc,List.length_append,List.length_take,nl,h5,Nat.min_eq_left hin,←Nat.add_mul];congr 1
 rw[←Bc]at gb ⊢
 have uV:g[b]? = some (.cells ((pre++body)++(tail.take 5++tail.drop 5)).toArray 47 (0,0)):=by
  rw[List.take_append_drop,List.append_assoc];exact gb
 have e10:m-(m-1)=1:=by omega
 rw[e10]
 refine Ol (E:=47) (n:=5) (k:=1) FL jW rfl rfl uV (by rw[List.length_append,h4,bl]) (by rw[List.length_take];omega) ?_
 intro new BS
 simp -implicitDefEqProofs only[go_sem,↓reduceIte]
 have kk:=kg.set h1 rfl (.cells ((pre++body)++(new++tail.drop 5)).toArray 47 (0,0))
 refine⟨.inr ⟨b,off,cap,pre,new++tail.drop 5,h1,rfl,?_,h4,bl,?_,by omega⟩,kk⟩
 ·rw[Zv uV,List.append_assoc]
 ·rw[List.length_append,BS,List.length_take,List.length_drop,tl,h6]
  have:(cap-(m-1))*5=(cap-m)*5+5:=by rw[←Nat.succ_mul];congr 1;omega
  omega
theorem EZ (T:World) (h:Hp) (o:Ow) (t:Tg) (v:Value) (m i:Nat) (cs:List Value) (s:Yt o t 163 14 h v m cs) (d:Q8 o h) (Xb:cs.all Z8=true) (hi:i<m) (hm:m≤4611686018427387904) :
  Zc Tryz.prog T 97 #[v,.int .i64 i,.int .i64 ((i:Int)+1)] h fun v' h'=>Yt o t 163 14 h' v' (m-1) (cs.take (i*14)++cs.drop ((i+1)*14))∧Kp (fun u=>u=t) o h o h':=by
 rcases s with⟨⟨p,rfl⟩,rfl,rfl⟩|⟨b,off,cap,pre,spare,h1,rfl,h3,h4,h5,h6,h7⟩
 ·omega
 refine Zc.Zi (args:=[_,_,_]) Tryz.func97 rfl rfl rfl rfl ?_
 have e1:(i:Int)≤m:=by omega
 have e2:(i:Int)+1≤m:=by omega
 have e3:(m:Int)≤cap:=by omega
 have e4:(i:Int)≠i+1:=by omega
 have e5:((i:Int)+1).toNat=i+1:=by omega
 have e6:(0:Int)≤i+1:=by omega
 have e7:(i:Int)≤i+1:=by omega
 have e8:(i:Int)≤cap:=by omega
 have c0:cap≠0:=by omega
 simp -implicitDefEqProofs only[go_sem,↓reduceIte,e1,e2,e3,e4,e5,e6,e7,e8]
 refine VS.z (h.size) [6] (.p 0 (.p 1 (.p 2 (.p 3 (.p 4 (.p 5 (.w 6 (.p 7 .nil)))))))) mixed (by kernel_rfl) ?_
 simp -implicitDefEqProofs only[go_sem,↓reduceIte,e1,e2,e3,e4,e5,e6,e7,e8,c0]
 have hin:i*14≤m*14:=Nat.mul_le_mul_right _ (by omega)
 have Zmg:(i+1)*14≤m*14:=Nat.mul_le_mul_right _ (by omega)
 have gK:m*14≤cap*14:=Nat.mul_le_mul_right _ h7
 have ZE:h[b]? = some (.cells (pre++(cs.take (i*14)++(cs.drop (i*14)++spare))).toArray 163 (0,0)):=by
  rw[←List.append_assoc (List.take _ _),List.take_append_drop];exact h3
 have src:Sl 14 h (.slice (if cap=i+1 then some ⟨b,off,none⟩ else some ⟨b,off+(i+1)*14,none⟩) (m-(i+1)) (cap-(i+1))) (m-(i+1)) (cs.drop ((i+1)*14)):=by
  have:=(Yt.tail (k:=i+1) (.inr ⟨b,off,cap,pre,spare,h1,rfl,h3,h4,h5,h6,h7⟩:Yt o t 163 14 h (.slice (some ⟨b,off,none⟩) m cap) m cs) (by omega)).sl
  rw[Option.map_some,YQ]at this
  exact this
 have nl:(cs.drop ((i+1)*14)).length=(m-(i+1))*14:=by rw[List.length_drop,h5,Nat.sub_mul]
 refine Lf (E:=163) (n:=14) (m:=i) (k:=m-(i+1)) (cs:=cs.take (i*14)) HU Tryz.underlying121 jX ai ZE h4.symm (by rw[List.length_take];omega) src (List.all_eq_true.2 fun x hx=>List.all_eq_true.1 Xb x (List.mem_of_mem_drop hx)) (by omega) (by rw[List.length_append,List.length_drop,h5,←Nat.sub_mul];have:(m-(i+1))*14≤(m-i)*14:=Nat.mul_le_mul_right _ (by omega);omega) ?_
 obtain⟨g,hg⟩:=ZA (h.setIfInBounds b (.cells (pre++((cs.take (i*14)++cs.drop ((i+1)*14))++(cs.drop (i*14)++spare).drop ((m-(i+1))*14))).toArray 163 (0,0)):Hp)
 rw[←hg]
 have kg:Kp (fun u=>u=t) o h o g:=by rw[hg];exact (Kp.refl d (fun u=>u=t)).set h1 rfl _
 have gb:=Zv (o:=.cells (pre++((cs.take (i*14)++cs.drop ((i+1)*14))++(cs.drop (i*14)++spare).drop ((m-(i+1))*14))).toArray 163 (0,0)) h3
 rw[←hg]at gb
 have e9:i+(m-(i+1))=m-1:=by omega
 have f1:((m-1:Nat):Int)≤m:=by omega
 have f2:(0:Int)≤((m-1:Nat):Int):=by omega
 have f3:cap≠m-1:=by omega
 have f4:(((m-1:Nat):Int)).toNat=m-1:=by omega
 have f5:(0:Int)≤m:=by omega
 have f6:((m-1:Nat):Int)≤cap:=by omega
 rw[e9]
 simp -implicitDefEqProofs only[go_sem,↓reduceIte,e3,f1,f2,f3,f4,f5,f6]
 have tl:((cs.drop (i*14)++spare).drop ((m-(i+1))*14)).length=14+spare.length:=by
  rw[List.length_drop,List.length_append,List.length_drop,h5]
  have:(m-(i+1))*14+14=m*14-i*14:=by rw[←Nat.sub_mul,←Nat.succ_mul];congr 1;omega
  omega
 obtain⟨tail,ht⟩:=ZA ((cs.drop (i*14)++spare).drop ((m-(i+1))*14))
 rw[←ht]at gb tl
 obtain⟨body,Bc⟩:=ZA (cs.take (i*14)++cs.drop ((i+1)*14))
 have bl:body.length=(m-1)*14:=by
  rw[Bc,List.length_append,List.length_take,nl,h5,Nat.min_eq_left hin,←Nat.add_mul];congr 1
 rw[←Bc]at gb ⊢
 have uV:g[b]? = some (.cells ((pre++body)++(tail.take 14++tail.drop 14)).toArray 163 (0,0)):=by
  rw[List.take_append_drop,List.append_assoc];exact gb
 have e10:m-(m-1)=1:=by omega
 rw[e10]
 refine Ol (E:=163) (n:=14) (k:=1) HU ai rfl rfl uV (by rw[List.length_append,h4,bl]) (by rw[List.length_take];omega) ?_
 intro new BS
 simp -implicitDefEqProofs only[go_sem,↓reduceIte]
 have kk:=kg.set h1 rfl (.cells ((pre++body)++(new++tail.drop 14)).toArray 163 (0,0))
 refine⟨.inr ⟨b,off,cap,pre,new++tail.drop 14,h1,rfl,?_,h4,bl,?_,by omega⟩,kk⟩
 ·rw[Zv uV,List.append_assoc]
 ·rw[List.length_append,BS,List.length_take,List.length_drop,tl,h6]
  have:(cap-(m-1))*14=(cap-m)*14+14:=by rw[←Nat.succ_mul];congr 1;omega
  omega
section
variable {α:Type} {enc:α→List Value} {n:Nat}
theorem Ss (QC:∀x,(enc x).length=n) (l:List α) (i:Nat) (hi:i≤l.length):(Zz enc l).take (i*n)=Zz enc (l.take i):=by
 have h1:(Zz enc (l.take i)).length=i*n:=by rw[Jn QC,List.length_take,Nat.min_eq_left hi]
 have h2:Zz enc l=Zz enc (l.take i)++Zz enc (l.drop i):=by rw[←Yf,List.take_append_drop]
 rw[h2,←h1,List.take_left]
theorem Vv (QC:∀x,(enc x).length=n) (l:List α) (i:Nat) (hi:i≤l.length):(Zz enc l).drop (i*n)=Zz enc (l.drop i):=by
 have h1:(Zz enc (l.take i)).length=i*n:=by rw[Jn QC,List.length_take,Nat.min_eq_left hi]
 have h2:Zz enc l=Zz enc (l.take i)++Zz enc (l.drop i):=by rw[←Yf,List.take_append_drop]
 rw[h2,←h1,List.drop_left]
theorem mG (QC:∀x,(enc x).length=n) (l:List α) (i:Nat) (hi:i<l.length) (y:α):Zz enc (l.set i y)=(Zz enc l).take (i*n)++(enc y++(Zz enc l).drop ((i+1)*n)):=by
 rw[List.set_eq_take_append_cons_drop,if_pos hi,Yf,Ss QC _ _ (by omega),Vv QC _ _ (by omega)]
 rfl
end
theorem rP (l:List Cm):(Zz Qd.C l).all Z8=true:=by
 induction l with
 | nil=>rfl
 | cons x l ih=>rw[Zz,List.all_append,ih];rfl
theorem WR {l:List Cm} {j:Nat} (hj:j<l.length) (q:Cm→Bool):(l.take (j+1)).filter q=(l.take j).filter q++if q l[j]=true then [l[j]] else []:=by
 rw[Yd l j hj,List.filter_append]
 congr 1
 cases h:q l[j]<;>simp[h]
theorem E6 {l:List Cm} {x:Cm} {i:Nat} (h:Vu l x=i):i<l.length∧(l.take i).filter (fun y=>decide (y≠x))=l.take i∧l[i]? = some x:=by
 unfold Vu at h
 split at h
 ·rename_i hm
  have hi:l.idxOf x=i:=by omega
  have h1:l.idxOf x<l.length:=List.idxOf_lt_length_of_mem hm
  refine⟨by omega,?_,?_⟩
  ·rw[List.filter_eq_self]
   intro y hy
   obtain⟨k,hk,rfl⟩:=List.getElem_of_mem hy
   rw[List.length_take]at hk
   rw[List.getElem_take]
   have:=List.not_of_lt_findIdx (p:=(· == x)) (xs:=l) (i:=k) (show k<List.findIdx (· == x) l by rw[show List.findIdx (· == x) l=l.idxOf x from rfl];omega)
   simpa using this
  ·rw[←hi,List.getElem?_eq_getElem h1,List.getElem_idxOf h1]
 ·omega
theorem E7 (T:World) (h:Hp) (o:Ow) (t:Tg) (v:Value) (l:List Cm) (bx:Nat) (x:Cm) (s:Qr o t h v l) (d:Q8 o h) (hb:ZM o h bx (.cells x.C.toArray 47)) (hl:l.length≤4611686018427387904) :
  Zc Tryz.prog T 147 #[v,NH bx] h fun v' h'=>Qr o t h' v' (l.filter fun y=>decide (y≠x))∧Kp (fun u=>u=t) o h o h':=by
 have ts:Ts Qd.C 5 h v l:=⟨s.sl⟩
 obtain⟨p,c,rfl,YO⟩:=Jw ts
 refine Zc.Zi (args:=[_,_]) Tryz.func147 rfl rfl rfl rfl ?_
 unfold NH Wb
 simp -implicitDefEqProofs only[go_sem,↓reduceIte]
 refine (L4 T h _ l bx x ts hb.2 hl).use ?_
 rintro _ h1 ⟨rfl,b1⟩
 have k1:Kp (fun u=>u=t) o h o h1:=Kp.Le d b1 _
 by_cases hm:x∈l
 case neg=>
  have e:Vu l x = -1:=by unfold Vu;rw[if_neg hm]
  have e2:(l.filter fun y=>decide (y≠x))=l:=by
   rw[List.filter_eq_self];intro y hy;simpa using fun q=>hm (by rw[←q];exact hy)
  simp -implicitDefEqProofs only[go_sem,↓reduceIte,e,e2]
  exact⟨Qr.Zd (S:=fun _=>False) s (Kp.Le d b1 _) id,k1⟩
 obtain⟨i0,Th⟩:∃i:Nat,Vu l x=i:=⟨l.idxOf x,by unfold Vu;rw[if_pos hm]⟩
 obtain⟨hi,hf,hx⟩:=E6 Th
 rcases s with⟨⟨q,h1'⟩,h2',h3'⟩|⟨b,off,cap,pre,spare,o1,hv,o3,o4,o5,o6,o7⟩
 ·omega
 simp only[Value.slice.injEq]at hv
 obtain⟨rfl,_,rfl⟩:=hv
 have i1:¬((i0:Nat):Int) = -1:=by omega
 simp -implicitDefEqProofs only[go_sem,↓reduceIte,Th,i1]
 obtain⟨q,hq⟩:∃q:Cm→Bool,q=fun y=>decide ¬y=x:=⟨_,rfl⟩
 have hq':(fun y=>decide (y≠x))=q:=by rw[hq]
 have hqx:∀y,q y=decide ¬y=x:=fun y=>by rw[hq]
 rw[hq']at hf
 rw[←hq]
 have DN:l[i0]=x:=by rw[List.getElem?_eq_getElem hi]at hx;exact Option.some.inj hx
 have sl:l.length≤c:=o7
 have el:∀L:List Cm,(Zz Qd.C L).length=L.length*5:=fun L=>Jn (n:=5) PQ L
 refine VS.ZW (fun F g=>F 0=.slice (some ⟨b,off,none⟩) l.length c∧F 1=NH bx∧Kp (fun u=>u=t) o h o g∧∃(i j:Nat) (L:List Cm),F 5=.int .i64 i∧F 6=.int .i64 j∧j≤l.length∧i<j∧L.length=l.length∧L.take i=(l.take j).filter q∧L.drop j=l.drop j∧i=((l.take j).filter q).length ∧
   g[b]? = some (.cells (pre++(Zz Qd.C L++spare)).toArray 47 (0,0)))
  (fun F _=>l.length-(vi (F 6)).toNat) rfl ⟨rfl,rfl,k1,i0,i0+1,l,rfl,?_,by omega,by omega,rfl,?_,rfl,?_,b1.get (Za o3) o3⟩ ?_
 ·show Value.int .i64 _=_
  congr 1
 ·rw[WR hi,hf,DN,hqx,if_neg (by simp),List.append_nil]
 ·rw[WR hi,hf,DN,hqx,if_neg (by simp),List.append_nil,List.length_take];omega
 rintro F g ⟨f0,f1,kg,i,j,L,f5,f6,hj,gI,hL,uI,hLj,G8,gb⟩
 unfold NH Wb at f1
 simp only[List.map]at f1
 have gl:=Za gb
 by_cases ZC:j<l.length
 ·have ZL:(j:Int)<l.length:=by omega
  have hjL:L[j]? = l[j]?:=by
   have:=congrArg (fun z=>z[0]?) hLj
   simpa using this
  have DY:j<L.length:=by omega
  have hjE:L[j]=l[j]:=by
   rw[List.getElem?_eq_getElem DY,List.getElem?_eq_getElem ZC]at hjL
   exact Option.some.inj hjL
  have ow:Yt o t 47 5 g (.slice (some ⟨b,off,none⟩) L.length c) L.length (Zz Qd.C L):=.inr ⟨b,off,c,pre,spare,o1,rfl,gb,o4,el L,by rw[hL];exact o6,by omega⟩
  obtain⟨p2,c2,lq,Iu⟩:=Jw (⟨ow.sl⟩:Ts Qd.C 5 g _ L)
  obtain⟨bb,oo,jN,_,hr⟩:=Iu (by intro e;rw[e]at DY;simp at DY)
  subst jN
  simp only[Value.slice.injEq,Option.some.injEq,Addr.mk.injEq]at lq
  obtain⟨⟨rfl,rfl,_⟩,_,rfl⟩:=lq
  have r1:rd g ⟨b,off+j*5,none⟩ 5=some (l[j]).C:=by rw[hr j DY,hjE]
  simp -implicitDefEqProofs only[go_sem,↓reduceIte,f0,f1,f5,f6,ZL,r1]
  have bxg:=hb.Zd kg
  have bxl:bx≠g.size:=by have:=Za bxg.2;omega
  refine (I4 T _ bx x l[j] (by rw[Zs (Za bxg.2)];exact bxg.2)).use ?_
  rintro _ g1 ⟨rfl,b1'⟩
  have bp:Zg g.size g g1:=(Zg.push (Nat.le_refl _) _).trans (b1'.mono (by simp))
  have kg1:Kp (fun u=>u=t) o h o g1:=kg.Z9 bp
  have gb1:=bp.get gl gb
  have Zmk:g1[g.size]? = some (.cells (l[j]).C.toArray 47):=b1'.get (by simp) Zb
  have yr:rd g1 ⟨g.size,0,none⟩ 5=some (l[j]).C:=Zq Zmk rfl
  have fs:=WR ZC q
  have hd1:∀L':List Cm,L'.drop j=l.drop j→L'.drop (j+1)=l.drop (j+1):=fun L' h=>by
   rw[←List.drop_drop,←List.drop_drop,h]
  by_cases hxj:l[j]=x
  ·have fs':(l.take (j+1)).filter q=(l.take j).filter q:=by rw[fs,hqx,if_neg (by simp[hxj]),List.append_nil]
   simp -implicitDefEqProofs only[go_sem,↓reduceIte,hxj,f0,f1,f5,f6]
   refine⟨⟨f0,f1,kg1,i,j+1,L,f5,rfl,ZC,by omega,hL,by rw[fs'];exact uI,hd1 L hLj,by rw[fs'];exact G8,gb1⟩,?_⟩
   simp only[vi,Zl,↓reduceIte,f6];omega
  ·have fs':(l.take (j+1)).filter q=(l.take j).filter q++[l[j]]:=by rw[fs,hqx,if_pos (by simp[hxj])]
   have i0':(0:Int)≤i:=by omega
   have i1':(i:Int)<l.length:=by omega
   have hiL:i<L.length:=by omega
   have w1:=ZR gb1 (off+i*5) (l[j]).C
   have eL:Yn (pre++(Zz Qd.C L++spare)) (off+i*5) (l[j]).C=pre++(Zz Qd.C (L.set i l[j])++spare):=by
    have e1:Zz Qd.C L=(Zz Qd.C L).take (i*5)++(((Zz Qd.C L).drop (i*5)).take 5++(Zz Qd.C L).drop ((i+1)*5)):=by
     have:(Zz Qd.C L).drop ((i+1)*5)=((Zz Qd.C L).drop (i*5)).drop 5:=by rw[List.drop_drop];congr 1;omega
     rw[this,List.take_append_drop,List.take_append_drop]
    have hle:(i+1)*5≤(Zz Qd.C L).length:=by rw[el];omega
    rw[mG PQ L i hiL]
    conv=>lhs;rw[e1]
    have e2:pre++(((Zz Qd.C L).take (i*5)++(((Zz Qd.C L).drop (i*5)).take 5++(Zz Qd.C L).drop ((i+1)*5)))++spare)=(pre++(Zz Qd.C L).take (i*5))++(((Zz Qd.C L).drop (i*5)).take 5++((Zz Qd.C L).drop ((i+1)*5)++spare)):=by simp only[List.append_assoc]
    rw[e2,Wk (by rw[List.length_append,o4,List.length_take];omega) (by rw[List.length_take,List.length_drop,PQ];omega)]
    simp only[List.append_assoc]
   rw[eL,if_pos ⟨by rw[List.length_append,List.length_append,o4,el,PQ];omega,mE _⟩]at w1
   simp -implicitDefEqProofs only[go_sem,↓reduceIte,hxj,f0,f1,f5,f6,yr,i0',i1',w1]
   refine⟨⟨f0,f1,kg1.set o1 rfl _,i+1,j+1,L.set i l[j],rfl,rfl,ZC,by omega,by rw[List.length_set,hL],?_,?_,?_,Zv gb1⟩,?_⟩
   ·rw[Yd _ i (by rw[List.length_set];exact hiL),List.take_set_of_le (Nat.le_refl _),List.getElem_set_self,fs',←uI]
   ·refine hd1 _ ?_
    rw[←hLj,List.drop_set_of_lt (by omega)]
   ·rw[fs',List.length_append,←G8];rfl
   ·simp only[vi,Zl,↓reduceIte,f6];omega
 ·have YF:¬(j:Int)<l.length:=by omega
  obtain rfl:j=l.length:=by omega
  rw[List.take_length]at uI G8
  have hiL:i≤L.length:=by omega
  have uV:g[b]? = some (.cells ((pre++Zz Qd.C (L.take i))++(Zz Qd.C (L.drop i)++spare)).toArray 47 (0,0)):=by
   rw[←Ss PQ L i hiL,←Vv PQ L i hiL]
   have:(pre++(Zz Qd.C L).take (i*5))++((Zz Qd.C L).drop (i*5)++spare)=pre++(Zz Qd.C L++spare):=by
    rw[List.append_assoc,←List.append_assoc (List.take _ _),List.take_append_drop]
   rw[this];exact gb
  have tl:(Zz Qd.C (L.take i)).length=i*5:=by rw[el,List.length_take,Nat.min_eq_left hiL]
  simp -implicitDefEqProofs only[go_sem,↓reduceIte,f0,f5,f6,YF]
  refine Ol (E:=47) (n:=5) (k:=l.length-i) FL jW rfl rfl uV (by rw[List.length_append,o4,tl]) (by rw[el,List.length_drop,hL]) ?_
  intro new BS
  have i2:(i:Int)≤c:=by omega
  simp -implicitDefEqProofs only[go_sem,↓reduceIte,i2,f0,f5]
  have e:(Zz Qd.C (L.take i))=Zz Qd.C (l.filter q):=by rw[uI]
  refine⟨.inr ⟨b,off,c,pre,new++spare,o1,by rw[←G8],?_,o4,el _,?_,by omega⟩,kg.set o1 rfl _⟩
  ·rw[Zv uV,←e,List.append_assoc]
  ·rw[List.length_append,BS,el,List.length_drop,o6,hL,←G8,←Nat.add_mul];congr 1;omega
@[go_sem] theorem Zml (x:Vt):Yq [some .i64,some .i64,some .i64,some .i64,some .i64,some .i64,some .i64,some .i64] (Zo x)=true:=rfl
@[go_sem] theorem Zmm (x y:Vt):leq (Zo x) (Zo y)=decide (x=y):=by
 obtain⟨a,⟨b,c⟩,d,e,f,g,k⟩:=x
 obtain⟨a',⟨b',c'⟩,d',e',f',g',k'⟩:=y
 unfold Zo
 rw[Bool.eq_iff_iff]
 simp[leq,zZ,Vt.mk.injEq,and_assoc]
@[go_sem] theorem Zhy (x:XK):Yq [some .i64,some .i64] (X3 x)=true:=rfl
@[go_sem] theorem Zhz (x y:XK):leq (X3 x) (X3 y)=decide (x=y):=by
 obtain⟨a,b⟩:=x
 obtain⟨a',b'⟩:=y
 unfold X3
 rw[Bool.eq_iff_iff]
 simp[leq,zZ,XK.mk.injEq]
@[go_sem] theorem ZdX (x:Vt):(Zo x).length=8:=rfl
theorem L5 {h:Hp} {v:Value} {l:List Vt} (s:Ts Zo 8 h v l):∃p c,v=.slice p l.length c∧(l≠[]→∃b o,p=some ⟨b,o,none⟩∧b<h.size∧∀i (hi:i<l.length),rd h ⟨b,o+i*8,none⟩ 8=some (Zo l[i])):=by
 obtain⟨p,c,hv,hh⟩:=s.open ZdX (by decide)
 refine⟨p,c,hv,fun Ys=>?_⟩
 obtain⟨b,o,h1,h2,h3⟩:=hh Ys
 exact⟨b,o,h1,h2,fun i hi=>(h3 i hi).rd (by simp[Zo]) rfl⟩
theorem BZ (T:World) (h:Hp) (v:Value) (l:List Vt) (x:Vt) (s:Ts Zo 8 h v l) (hl:l.length≤4611686018427387904) :
  Zc Tryz.prog T 150 #[v,.agg (Zo x).toArray] h fun v' h'=>(∃i:Int,v'=.int .i64 i∧(0≤i↔x∈l))∧Zg h.size h h':=by
 obtain⟨p,c,rfl,YO⟩:=L5 s
 refine Zc.Zi (args:=[_,_]) Tryz.func150 rfl rfl rfl rfl ?_
 simp -implicitDefEqProofs only[go_sem,↓reduceIte]
 obtain⟨h1,Yw⟩:=ZA (h.push (.cells (Zo x).toArray 161):Hp)
 have b1:Zg h.size h h1:=by rw[Yw];exact Zg.push (Nat.le_refl _) _
 have x1:h1[h.size]? = some (.cells (Zo x).toArray 161):=by rw[Yw];exact Zb
 rw[←Yw]
 clear Yw
 refine VS.ZW (fun F g=>g=h1∧F 0=.slice p l.length c∧F 3=.pointer (some ⟨h.size,0,none⟩)∧F 7=.int .i64 l.length∧∃i:Nat,i≤l.length∧F 8=.int .i64 i∧∀j (hj:j<l.length),j<i→l[j]≠x)
  (fun F _=>l.length-(vi (F 8)).toNat) rfl ⟨rfl,rfl,rfl,rfl,0,by omega,rfl,fun j hj q=>by omega⟩ ?_
 rintro F g ⟨rfl,f0,f3,f7,i,hi,f8,Y3⟩
 by_cases ZC:i<l.length
 ·have ZL:(i:Int)<l.length:=by omega
  obtain⟨bb,oo,rfl,UP,Ga⟩:=YO (by intro e;rw[e]at ZC;simp at ZC)
  have r1:rd g ⟨bb,oo+i*8,none⟩ 8=some (Zo l[i]):=by rw[JI b1 (by exact UP)];exact Ga i ZC
  have r0:rd g ⟨h.size,0,none⟩ 8=some (Zo x):=Zq x1 rfl
  simp -implicitDefEqProofs only[go_sem,↓reduceIte,f0,f3,f7,f8,ZL]
  refine VS.q mixed (by kernel_rfl) ?_
  simp -implicitDefEqProofs only[go_sem,↓reduceIte,f0,f3,f7,f8,ZL,r1,r0]
  by_cases q:l[i]=x
  ·rw[q]
   simp -implicitDefEqProofs only[go_sem,↓reduceIte,b1]
   exact⟨_,rfl,fun _=>q▸List.getElem_mem ZC,fun _=>by omega⟩
  ·have q':¬x=l[i]:=fun e=>q e.symm
   simp -implicitDefEqProofs only[go_sem,↓reduceIte,q',f0,f3,f7,f8]
   refine⟨⟨rfl,f0,f3,f7,i+1,ZC,rfl,fun j hj We=>?_⟩,?_⟩
   ·by_cases e:j=i
    ·subst e;exact q
    ·exact Y3 j hj (by omega)
   ·simp only[vi,Zl,↓reduceIte,f8];omega
 ·have YF:¬(i:Int)<l.length:=by omega
  have hx:x ∉ l:=fun hm=>by obtain⟨j,hj,he⟩:=List.getElem_of_mem hm;exact Y3 j hj (by omega) he
  simp -implicitDefEqProofs only[go_sem,↓reduceIte,f7,f8,YF,b1,hx]
  exact⟨-1,rfl,fun q=>by omega,fun q=>q.elim⟩
theorem Ic (T:World) (h:Hp) (v:Value) (l:List Vt) (x:Vt) (s:Ts Zo 8 h v l) (hl:l.length≤4611686018427387904) :
  Zc Tryz.prog T 128 #[v,.agg (Zo x).toArray] h fun v' h'=>v'=.bool (decide (x∈l))∧Zg h.size h h':=by
 obtain⟨p,c,rfl,YO⟩:=L5 s
 refine Zc.Zi (args:=[_,_]) Tryz.func128 rfl rfl rfl rfl ?_
 simp -implicitDefEqProofs only[go_sem,↓reduceIte]
 refine (BZ T _ _ l x (s.Z9 ((Zg.refl _ _).add _)) hl).use ?_
 rintro _ h2 ⟨⟨i,rfl,hi⟩,b2⟩
 have b:Zg h.size h h2:=((Zg.refl _ _).add _).trans (b2.mono (by simp))
 simp -implicitDefEqProofs only[go_sem,↓reduceIte,hi,b]
theorem PT (T:World) (h:Hp) (a b:XK):Zc Tryz.prog T 111 #[.agg (X3 a).toArray,.agg (X3 b).toArray] h fun v' h'=>v'=.bool (decide (below b a))∧Zg h.size h h':=by
 refine Zc.Zi (args:=[_,_]) Tryz.func111 rfl rfl rfl rfl ?_
 unfold X3
 by_cases q1:b.r<a.r
 ·have e:below b a:=.inl q1
  simp -implicitDefEqProofs only[go_sem,↓reduceIte,q1,e]
  (repeat' (first|exact Zg.refl _ _|assumption|refine Zg.add ?_ _|refine Zg.Zm ?_ (by first|omega|(simp;omega)) _|refine Zg.trans (by assumption) ?_))
 ·by_cases q2:a.r=b.r
  ·by_cases q3:b.n<a.n
   ·have e:below b a:=.inr ⟨q2.symm,q3⟩
    simp -implicitDefEqProofs only[go_sem,↓reduceIte,q1,q2,q3,e]
    (repeat' (first|exact Zg.refl _ _|assumption|refine Zg.add ?_ _|refine Zg.Zm ?_ (by first|omega|(simp;omega)) _|refine Zg.trans (by assumption) ?_))
   ·have e:¬below b a:=fun h=>by rcases h with h|⟨_,h⟩<;>omega
    simp -implicitDefEqProofs only[go_sem,↓reduceIte,q1,q2,q3,e]
    (repeat' (first|exact Zg.refl _ _|assumption|refine Zg.add ?_ _|refine Zg.Zm ?_ (by first|omega|(simp;omega)) _|refine Zg.trans (by assumption) ?_))
  ·have e:¬below b a:=fun h=>by rcases h with h|⟨h,_⟩<;>omega
   simp -implicitDefEqProofs only[go_sem,↓reduceIte,q1,q2,e]
   (repeat' (first|exact Zg.refl _ _|assumption|refine Zg.add ?_ _|refine Zg.Zm ?_ (by first|omega|(simp;omega)) _|refine Zg.trans (by assumption) ?_))
theorem My (T:World) (h:Hp) (n:Nat) (hn:n≤1000000000000):Zc Tryz.prog T 125 #[.int .i64 n] h fun v' h'=>v'=.bool (decide (5<2*n))∧h'=h:=by
 refine Zc.Zi (args:=[_]) Tryz.func125 rfl rfl rfl rfl ?_
 have e:((5:Int)<2*(n:Int))=(5<2*n):=by apply propext;omega
 simp -implicitDefEqProofs only[go_sem,↓reduceIte,e]
theorem Qr.ts {o:Ow} {t:Tg} {h:Hp} {v:Value} {l:List Cm} (s:Qr o t h v l):Ts Qd.C 5 h v l:=⟨Yt.sl s⟩
theorem OH {T:World} {K:Value→Hp→Prop} {ty:TypeId} {o:Ow} {t:Tg} {h:Hp} {v:Value} {l:List Cm} {x:Cm} {bx:Nat} {cb:Array Bool} (s:Qr o t h v l) (d:Q8 o h) (hb:h[bx]? = some (.cells x.C.toArray 47)) (hr:l.length≤1000000000000)
  (H:∀p c o' h',Qr o' t h' (.slice p (l.length+1) c) (l++[x])→Kp (fun u=>u=t) o h o' h'→K (.slice p (l.length+1) c) h') :
  Tn Tryz.prog T .append #[37,37] ty cb [v,.slice (some ⟨bx,0,none⟩) 1 1] K h:=by
 have src:Sl 5 h (.slice (some ⟨bx,0,none⟩) 1 1) 1 x.C:=⟨_,1,rfl,rfl,fun _=>⟨bx,0,rfl,fun i hi=>by
  rw[Zh hb,Yk,Nat.zero_add];exact List.getElem?_eq_getElem hi⟩⟩
 refine XQ (E:=47) (n:=5) (bytes:=40) (k:=1) FL Tryz.underlying37 wU jW rfl Zb9 s d src (mE x) (by omega) (by omega) ?_
 intro v' o' h' w k _
 obtain⟨p,c,rfl,_⟩:=w.isSlice
 refine H p c o' h' ?_ k
 unfold Qr
 rw[Yf,QV,List.length_append]
 exact w
def yM (i:Nat) (t:Tg):Prop:=t=.node i∨t=.queue i
theorem mH (T:World) (h:Hp) (o:Ow) (wb i nb:Nat) (a:NA) (n:Nd) (x:Cm) (d:Q8 o h) (N:ZJ o h wb i nb a n) (hq:n.queue.length≤1000000000000) (hl:n.log.length≤1000000000000) :
  Zc Tryz.prog T 92 #[Zp nb,Wx x] h fun v' h'=>∃o' a',Kp (yM i) o h o' h'∧ZJ o' h' wb i nb a' (add n x):=by
 have WX:=Za N.ZE.2
 have R:=Zy N.ZE.2 N.pt.store.len
 refine Zc.Zi (args:=[_,_]) Tryz.func92 rfl rfl rfl rfl ?_
 unfold Zp Wx
 have e1:nb≠h.size:=by omega
 simp -implicitDefEqProofs only[go_sem,↓reduceIte]
 obtain⟨h1,Yw⟩:=ZA (h.push (.cells x.C.toArray 47):Hp)
 have k1:Kp Qh o h o h1:=by rw[Yw];exact ZY d _
 have x1:ZM o h1 h.size (.cells x.C.toArray 47):=⟨d _ (Nat.le_refl _),by rw[Yw];exact Zb⟩
 rw[←Yw]
 have N1:=N.still k1
 clear Yw
 have R1:=Zy N1.ZE.2 N1.pt.store.len
 have Jx:=Za N1.ZE.2
 have hs1:=Za x1.2
 have r1:rd h1 ⟨h.size,0,none⟩ 5=some x.C:=Zq x1.2 rfl
 refine VS.z (h1.size) [13] (.p 0 (.p 1 (.p 2 (.q 3 (.q 4 (.s 5 (.p 6 (.p 7 (.p 8 (.p 9 (.p 10 (.q 11 (.q 12 (.w 13 (.p 14 (.p 15 .nil)))))))))))))))) mixed (by kernel_rfl) ?_
 simp -implicitDefEqProofs only[go_sem,↓reduceIte,R1.queue,Jx,r1,hs1]
 refine (WQ T h1 _ n.queue x N1.pt.queue.ts (by omega)).use ?_
 rintro _ h2 ⟨rfl,b2⟩
 by_cases q1:x∈n.queue
 ·have e:add n x=n:=by unfold add;rw[if_pos (.inl q1)]
  simp -implicitDefEqProofs only[go_sem,↓reduceIte,q1,b2,e]
  exact⟨o,a,(ZF k1).Z9 b2,N1.still (ZD k1.ZX b2)⟩
 simp -implicitDefEqProofs only[go_sem,↓reduceIte,q1,b2,R1.log,Jx,r1,hs1]
 have k2:=ZD k1.ZX b2
 refine (WQ T h2 _ n.log x (N1.still k2).pt.log.ts (by omega)).use ?_
 rintro _ h3 ⟨rfl,b3⟩
 have uW:Zg h1.size h1 h3:=b2.trans (b3.mono b2.size)
 have k3:=ZD k1.ZX uW
 by_cases q2:x∈n.log
 ·have e:add n x=n:=by unfold add;rw[if_pos (.inr q2)]
  simp -implicitDefEqProofs only[go_sem,↓reduceIte,q2,uW,e]
  exact⟨o,a,(ZF k1).Z9 uW,N1.still k3⟩
 have e:add n x = { n with queue:=n.queue++[x] }:=by unfold add;rw[if_neg (fun q=>q.elim q1 q2)]
 simp -implicitDefEqProofs only[go_sem,↓reduceIte,q2,uW,e]
 have N3:=N1.still k3
 have x3:=x1.Zd k3
 have R3:=Zy N3.ZE.2 N3.pt.store.len
 have Rt:=Za N3.ZE.2
 have hs3:=Za x3.2
 have r3:rd h3 ⟨h.size,0,none⟩ 5=some x.C:=Zq x3.2 rfl
 refine VS.z (h3.size) [7,10] (.p 0 (.p 1 (.p 2 (.p 3 (.q 4 (.q 5 (.s 6 (.w 7 (.p 8 (.p 9 (.w 10 .nil))))))))))) mixed (by kernel_rfl) ?_
 simp -implicitDefEqProofs only[go_sem,↓reduceIte,R3.queue,Rt,r3,hs3]
 have k4:=ZY k3.ZX (.cells x.C.toArray 47)
 have N4:=N3.still k4
 refine OH (l:=n.queue) N4.pt.queue k4.ZX Zb hq ?_
 intro p c o5 h5 w5 k5
 have b5:=N4.ZE.Zd k5 (by intro e;cases e)
 have W5:=YK b5.2 N4.pt.store.len
 have w:=W5.queue (.slice p (n.queue.length+1) c) rfl
 simp -implicitDefEqProofs only[go_sem,↓reduceIte,w]
 exact⟨o5,_,(((ZF k1).Z9 uW).push _).trans (k5.mono fun u q=>.inr q) |>.set b5.1 (.inl rfl) _,(N4.pt.I0 k5 w5).put k5.ZX b5⟩
def Qs (i:Nat) (t:Tg):Prop:=t=.world∨t=.told∨t=.node i∨t=.known i∨t=.log i∨t=.queue i∨t=.waiting i
theorem mI {β:Type}:∀(l:List (Int × β)) (ks:List Int),ks.Nodup→(∀k∈ks,(Xc l k).isSome=true)→ks.length≤l.length:=by
 intro l
 induction l with
 | nil=>
  intro ks _ h
  cases ks with
  | nil=>simp
  | cons k ks=>have:=h k (by simp);simp[Xc]at this
 | cons x l ih=>
  intro ks hn h
  obtain⟨a,v⟩:=x
  have h1:(ks.erase a).length≤l.length:=ih _ (hn.erase a) fun k hk=>by
   have RX:=(List.Nodup.mem_erase_iff hn).1 hk
   have:=h k RX.2
   unfold Xc at this
   rw[if_neg (fun e=>RX.1 e.symm)]at this
   exact this
  have h2:ks.length≤(ks.erase a).length+1:=by
   rw[List.length_erase];split<;>omega
  simp only[List.length_cons];omega
theorem E8 {β:Type} (l:List (Int × β)) (a m:Nat) (h:∀j,j<m→(Xc l ((a+j:Nat):Int)).isSome=true):m≤l.length:=by
 have:=mI l ((List.range m).map fun j=>((a+j:Nat):Int)) ?_ ?_
 ·simpa using this
 ·rw[List.nodup_iff_pairwise_ne,List.pairwise_map]
  exact (List.nodup_range (n:=m)).imp fun {x y} hxy he=>hxy (by omega)
 ·intro k hk
  simp only[List.mem_map,List.mem_range]at hk
  obtain⟨j,hj,rfl⟩:=hk
  exact h j hj
theorem aS (T:World) (h:Hp) (cs:List Value) (s:PO cs) (x:Cm):Zc Tryz.prog T 38 #[.agg cs.toArray,Wx x] h fun v' h'=>v'=.tuple #[.agg (GA cs x).toArray,.agg #[.int .i64 (Rr cs x),.int .i64 (LU cs x)],.int .i64 (PK cs x)]∧Zg h.size h h':=by
 refine (Bt T h cs x.k x.c x.s x.n x.v s.fit s.num s.yes).mono ?_
 rintro v' h' ⟨H,b⟩
 refine⟨?_,b⟩
 rw[H]
 unfold doL GA Rr LU PK Vq
 by_cases e:Nm cs x.k x.c x.s x.n x.v=0
 ·rw[if_pos e,if_pos e,if_pos e,if_pos e,e]
 ·rw[if_neg e,if_neg e,if_neg e,if_neg e]
theorem PO.mJ {cs:List Value} (h:Yq XT cs=true):PO cs:=⟨h,BO h,EL h⟩
theorem PO.do {cs:List Value} (s:PO cs) (x:Cm):PO (GA cs x):=by
 obtain⟨D,a,b,h1,h2,_⟩:=rE s.fit x
 refine PO.mJ ?_
 unfold doL at h1
 unfold GA PK Vq
 by_cases e:Nm cs x.k x.c x.s x.n x.v=0
 ·rw[if_pos e]at h1 ⊢
  simp only[List.cons.injEq,Value.agg.injEq,Array.mk.injEq]at h1
  rw[h1.1];exact h2
 ·rw[if_neg e]at h1 ⊢
  simp only[List.cons.injEq,Value.agg.injEq,Array.mk.injEq]at h1
  rw[h1.1];exact h2
theorem NJ {T:World} {K:Value→Hp→Prop} {ty:TypeId} {o:Ow} {t:Tg} {h:Hp} {v:Value} {l:List TV} {x:TV} {bx:Nat} {cb:Array Bool} (s:Yt o t 42 5 h v l.length (Zz L0 l)) (d:Q8 o h) (hb:h[bx]? = some (.cells (L0 x).toArray 42)) (hr:l.length≤1000000000000)
  (H:∀p c o' h',Yt o' t 42 5 h' (.slice p (l.length+1) c) (l++[x]).length (Zz L0 (l++[x]))→Kp (fun u=>u=t) o h o' h'→K (.slice p (l.length+1) c) h') :
  Tn Tryz.prog T .append #[31,31] ty cb [v,.slice (some ⟨bx,0,none⟩) 1 1] K h:=by
 have src:Sl 5 h (.slice (some ⟨bx,0,none⟩) 1 1) 1 (L0 x):=⟨_,1,rfl,rfl,fun _=>⟨bx,0,rfl,fun i hi=>by
  rw[Zh hb,Yk,Nat.zero_add];exact List.getElem?_eq_getElem hi⟩⟩
 refine XQ (E:=42) (n:=5) (bytes:=40) (k:=1) Zb8 Tryz.underlying31 Zi5 Zi7 rfl Zi6 s d src rfl (by omega) (by omega) ?_
 intro v' o' h' w k _
 obtain⟨p,c,rfl,_⟩:=w.isSlice
 refine H p c o' h' ?_ k
 rw[Yf,QV,List.length_append]
 exact w
theorem ZG.aT {o o1:Ow} {h h1:Hp} {wb:Nat} {nb:Nat→Nat} {a:WA} {fl:List Y2} {bad:Nat→Int} {told mK:List TV} {v:Value} (W:ZG o h wb nb a fl bad told) (k:Kp (fun t=>t=.told) o h o1 h1)
  (hv:Yt o1 .told 42 5 h1 v mK.length (Zz L0 mK)) {e:Option Hp} (w:e=some (h1.setIfInBounds wb (.cells (Y6 bad { a with told:=v }).toArray 123))) :
  ∃g,e=some g∧ZG o1 g wb nb { a with told:=v } fl bad mK∧Kp (fun t=>t=.world) o1 h1 o1 g:=by
 have b:=W.ZE.Zd k (by intro e;cases e)
 have kk:Kp (fun t=>t=.world) o1 h1 o1 (h1.setIfInBounds wb (.cells (Y6 bad { a with told:=v }).toArray 123)):=(Kp.refl k.ZX (fun t=>t=.world)).set b.1 rfl _
 exact⟨_,w,⟨⟨b.1,Zv b.2⟩,(W.nodes.Zd k (by intro e;cases e)).Zd kk (by intro e;cases e),(W.Zn.Zd k (by intro e;cases e)).Zd kk (by intro e;cases e),hv.Zd kk (by intro e;cases e)⟩,kk⟩
def aU:Option Value→Nat
 | some (.slice _ l _)=>l
 | _=>0
set_option maxHeartbeats 1000000 in
theorem L6 (T:World) (h:Hp) (o:Ow) (wb i nb:Nat) (Z6:Nat→Nat) (a:NA) (n:Nd) (YA:WA) (fl:List Y2) (bad:Nat→Int) (told:List TV) (s:Int) (x:Cm) (d:Q8 o h)
  (N:ZJ o h wb i nb a n) (W:ZG o h wb Z6 YA fl bad told) (hk:n.known.length≤100000000000) (hl:n.log.length≤100000000000) (ht:told.length≤100000000000) (hq:n.queue.length≤1000000000000) (hw:n.waiting.length≤1000000000000) :
  Zc Tryz.prog T 126 #[Zp wb,Zp nb,.int .i64 s,Wx x] h fun v' h'=>∃o' a' Xq,Kp (Qs i) o h o' h'∧ZJ o' h' wb i nb a' (Ul n s x).n∧ZG o' h' wb Z6 Xq fl bad (told++(Ul n s x).ts):=by
 have WX:=Za N.ZE.2
 have GF:=Za W.ZE.2
 refine Zc.Zi (args:=[_,_,_,_]) Tryz.func126 rfl rfl rfl rfl ?_
 unfold Zp Wx
 simp -implicitDefEqProofs only[go_sem,↓reduceIte]
 obtain⟨h1,Yw⟩:=ZA (h.push (.cells x.C.toArray 47):Hp)
 have k1:Kp Qh o h o h1:=by rw[Yw];exact ZY d _
 have x1:ZM o h1 h.size (.cells x.C.toArray 47):=⟨d _ (Nat.le_refl _),by rw[Yw];exact Zb⟩
 rw[←Yw]
 have N1:=N.still k1
 have W1:=W.still k1
 clear Yw
 have R1:=Zy N1.ZE.2 N1.pt.store.len
 have Jx:=Za N1.ZE.2
 have hs1:=Za x1.2
 have r1:rd h1 ⟨h.size,0,none⟩ 5=some x.C:=Zq x1.2 rfl
 refine VS.z (h1.size) [6] (.p 0 (.p 1 (.p 2 (.q 3 (.p 4 (.q 5 (.w 6 .nil))))))) mixed (by kernel_rfl) ?_
 simp -implicitDefEqProofs only[go_sem,↓reduceIte,R1.known,Jx,r1,hs1]
 have km:=XJ (K:=fun _ _=>True) (x:=.agg x.C.toArray) (n:=s) Vs N1.pt.known.2 (P:=Tryz.prog)
 rw[XJ Vs N1.pt.known.2]
 have k2:Kp (fun t=>t=.known i) o h1 o (h1.setIfInBounds a.known (Xi (ins (Ue Wx n.known) s (.agg x.C.toArray)))):=(Kp.refl k1.ZX (fun t=>t=.known i)).set N1.pt.known.1 rfl _
 have m2:J9 o (.known i) (h1.setIfInBounds a.known (Xi (ins (Ue Wx n.known) s (.agg x.C.toArray)))) a.known (Ue Wx (ins n.known s x)):=
  ⟨N1.pt.known.1,by rw[Zv N1.pt.known.2,Tw];rfl⟩
 have N2:ZJ o (h1.setIfInBounds a.known (Xi (ins (Ue Wx n.known) s (.agg x.C.toArray)))) wb i nb a (Uh n s x):=⟨N1.ZE.Zd k2 (by intro e;cases e),N1.pt.fv k2 m2⟩
 have W2:=W1.Zd k2 (by rintro t rfl;simp[Tg.of])
 have K2:Kp (Qs i) o h o (h1.setIfInBounds a.known (Xi (ins (Ue Wx n.known) s (.agg x.C.toArray)))):=(ZF k1).trans (k2.mono fun t q=>.inr (.inr (.inr (.inl q))))
 generalize (h1.setIfInBounds a.known (Xi (ins (Ue Wx n.known) s (.agg x.C.toArray))))=h2 at *
 clear km
 unfold Ul
 obtain⟨L,hL⟩:=ZA ((Uh n s x).known.length)
 have hLb:L≤100000000001:=by
  rw[hL];unfold Uh;simp only[Rh];split<;>omega
 obtain⟨n0,Is⟩:=ZA (Uh n s x)
 rw[←Is]at N2 hL ⊢
 rw[←hL]
 have hl0:n0.log.length≤100000000000:=by rw[Is];exact hl
 have hq0:n0.queue.length≤1000000000000:=by rw[Is];exact hq
 have hw0:n0.waiting.length≤1000000000000:=by rw[Is];exact hw
 clear N1 W1 R1 Jx hs1 r1 k2 m2 N W hk hl hq hw Is k1 x1
 simp -implicitDefEqProofs only[go_sem,↓reduceIte]
 refine VS.ZW (fun F g=>F 0=.pointer (some ⟨wb,0,none⟩)∧F 1=.pointer (some ⟨nb,0,none⟩)∧∃o' a' Xq m ts f j,Kp (Qs i) o h o' g∧ZJ o' g wb i nb a' m∧ZG o' g wb Z6 Xq fl bad (told++ts)∧f+j=L+1∧m.known=n0.known∧m.log.length=n0.log.length+j ∧
   m.queue.length≤1000000000000∧m.waiting.length≤1000000000000∧ts.length≤j∧(∀j',j'<j→(Xc n0.known ((n0.log.length+j':Nat):Int)).isSome=true)∧(YJ (L+1) n0).1=(YJ f m).1∧(YJ (L+1) n0).2=ts++(YJ f m).2)
  (fun F g=>n0.log.length+L+2-aU (hc g ⟨nb,11,none⟩)) rfl ⟨rfl,rfl,o,a,YA,n0,[],L+1,0,K2,N2,by rw[List.append_nil];exact W2,rfl,rfl,rfl,hq0,hw0,Nat.le_refl _,fun j' h=>by omega,rfl,rfl⟩ ?_
 rintro F g ⟨f0,f1,o',a',Xq,m,ts,f,j,K,M,V,hf,ad,gU,hmq,hmw,hts,hjs,g1,g2⟩
 have R:=Zy M.ZE.2 M.pt.store.len
 have rQ:=Za M.ZE.2
 obtain⟨lp,lc,OI,zX⟩:=Yt.isSlice M.pt.log
 have mu:aU (hc g ⟨nb,11,none⟩)=m.log.length:=by rw[R.log,OI];rfl
 rw[mu]
 have R11:=R.log
 rw[OI]at R11
 have lk:=fun (K:Value→Hp→Prop)=>Yo (K:=K) (n:=(m.log.length:Int)) (c:=true) Vs PN M.pt.known.2
 have WS:=fun (K:Value→Hp→Prop) (x:Obj)=>Yo (h:=g.push x) (K:=K) (n:=(m.log.length:Int)) (c:=true) Vs PN ((Zs (Za M.pt.known.2)).trans M.pt.known.2)
 rw[Xh]at lk
 simp only[Xh]at WS
 simp -implicitDefEqProofs only[go_sem,↓reduceIte,f0,f1]
 cases hx:Xc m.known (m.log.length:Int) with
 | none=>
  rw[hx]at lk
  simp only[hx,Option.map_none,Option.getD_none,Option.isSome_none,↓reduceIte]at lk WS
  have e:f≠0→YJ f m=(m,[]):=fun Ys=>by
   obtain⟨f',rfl⟩:∃f',f=f'+1:=⟨f-1,by omega⟩
   unfold YJ;rw[hx]
  have e':YJ f m=(m,[]):=by
   by_cases q:f=0
   ·subst q;rfl
   ·exact e q
  rw[e']at g1 g2
  refine VS.mono (N:=fun F' g'=>Zg g.size g g'∧F' 9=.bool false) ?_ ?_ (fun _ _ _ h=>h) (fun _ _ h=>h)
  ·refine VS.z (g.size) [9,14] (.p 0 (.p 1 (.p 2 (.q 3 (.p 4 (.p 5 (.p 6 (.q 7 (.p 8 (.or 9 (.p 10 (.p 11 (.p 12 (.s 13 (.w 14 (.p 15 .nil)))))) (.s 13 (.w 9 (.p 10 (.p 11 (.p 12 (.w 14 (.p 15 .nil))))))))))))))))) mixed (by kernel_rfl) ?_
   simp -implicitDefEqProofs only[go_sem,↓reduceIte,f0,f1,R.known,R11,rQ,lk,WS]
   repeat' (first|exact Zg.refl _ _|exact Zg.push (Nat.le_refl _) _|refine And.intro ?_ ?_)
  ·rintro F' g' ⟨b,f9⟩
   simp -implicitDefEqProofs only[go_sem,↓reduceIte,f9]
   rw[g1,g2,List.append_nil]
   exact⟨o',a',Xq,K.Z9 b,M.still (ZD K.ZX b),V.still (ZD K.ZX b)⟩
 | some y=>
  rw[hx]at lk
  simp only[hx,Option.map_some,Option.getD_some,Option.isSome_some,↓reduceIte]at lk WS
  refine VS.mono (N:=fun F' g'=>Zg g.size g g'∧F' 0=.pointer (some ⟨wb,0,none⟩)∧F' 1=.pointer (some ⟨nb,0,none⟩)∧F' 9=.bool true∧F' 8=.pointer (some ⟨g.size,0,none⟩)∧g'[g.size]? = some (.cells y.C.toArray 47)) ?_ ?_ (fun _ _ _ h=>h) (fun _ _ h=>h)
  ·refine VS.z (g.size) [9,14] (.p 0 (.p 1 (.p 2 (.q 3 (.p 4 (.p 5 (.p 6 (.q 7 (.p 8 (.or 9 (.p 10 (.p 11 (.p 12 (.s 13 (.w 14 (.p 15 .nil)))))) (.s 13 (.w 9 (.p 10 (.p 11 (.p 12 (.w 14 (.p 15 .nil))))))))))))))))) mixed (by kernel_rfl) ?_
   simp -implicitDefEqProofs only[go_sem,↓reduceIte,f0,f1,R.known,R11,rQ,lk,WS,Wx]
   have gp:∀x:Obj,(g.push x)[g.size]? = some x:=fun x=>Zb
   repeat' (first|exact Zg.refl _ _|exact Zg.push (Nat.le_refl _) _|exact gp _|refine And.intro ?_ ?_)
  ·rintro F2 g2 ⟨b2,f20,f21,f29,f28,x2⟩
   simp -implicitDefEqProofs only[go_sem,↓reduceIte,f29]
   have kb:=ZD K.ZX b2
   have M2:=M.still kb
   have V2:=V.still kb
   have bx2:ZM o' g2 g.size (.cells y.C.toArray 47):=⟨K.ZX _ (Nat.le_refl _),x2⟩
   have K2:=K.Z9 b2
   have SU:=rQ
   clear R R11 lk WS rQ mu
   have R2:=Zy M2.ZE.2 M2.pt.store.len
   have JD:=Za M2.ZE.2
   have hs2:=Za x2
   have r2:rd g2 ⟨g.size,0,none⟩ 5=some y.C:=Zq x2 rfl
   refine VS.z (g2.size) [7,10] (.p 0 (.p 1 (.p 2 (.p 3 (.q 4 (.q 5 (.s 6 (.w 7 (.p 8 (.p 9 (.w 10 .nil))))))))))) mixed (by kernel_rfl) ?_
   simp -implicitDefEqProofs only[go_sem,↓reduceIte,f20,f21,f28,R2.log,JD,hs2,r2]
   have k3:=ZY K2.ZX (.cells y.C.toArray 47)
   refine OH (l:=m.log) (M2.still k3).pt.log k3.ZX Zb (by omega) ?_
   intro p c o3 g3 w3 kk3
   have yN:Kp (fun t=>t=.log i) o' g2 o3 g3:=(ZF k3).trans kk3
   have b3:=M2.ZE.Zd yN (by intro e;cases e)
   have w:=(YK b3.2 M2.pt.store.len).log (.slice p (m.log.length+1) c) rfl
   simp -implicitDefEqProofs only[go_sem,↓reduceIte,w]
   have M4:=(M2.pt.rN yN w3).put yN.ZX b3
   have kn:Kp (fun t=>t=.node i) o3 g3 o3 (g3.setIfInBounds nb (Y8 { m with log:=m.log++[y] } { a' with log:=.slice p (m.log.length+1) c })):=(Kp.refl yN.ZX (fun t=>t=.node i)).set b3.1 rfl _
   have V4:=(V2.Zd yN (by rintro t rfl;simp[Tg.of])).Zd kn (by rintro t rfl;simp[Tg.of])
   have x4:=(bx2.Zd yN).Zd kn
   have K4:Kp (Qs i) o h o3 (g3.setIfInBounds nb (Y8 { m with log:=m.log++[y] } { a' with log:=.slice p (m.log.length+1) c })):=
    (K2.trans (yN.mono fun t q=>.inr (.inr (.inr (.inr (.inl q)))))).trans (kn.mono fun t q=>.inr (.inr (.inl q)))
   obtain⟨g4,PU⟩:=ZA (g3.setIfInBounds nb (Y8 m { a' with log:=.slice p (m.log.length+1) c }))
   rw[show Y8 { m with log:=m.log++[y] } { a' with log:=.slice p (m.log.length+1) c } = Y8 m { a' with log:=.slice p (m.log.length+1) c } from rfl,←PU]at M4 V4 x4 K4
   rw[←PU]
   clear PU kn
   have R4:=Zy M4.ZE.2 M4.pt.store.len
   have Mb:=Za M4.ZE.2
   have hs4:=Za x4.2
   have r4:rd g4 ⟨g.size,0,none⟩ 5=some y.C:=Zq x4.2 rfl
   have call:=fun G=>aS T G m.store M4.pt.store y
   have R4s:rd g4 ⟨nb,12,none⟩ 40=some m.store:=R4.store
   have hD:=(M4.pt.store.do y)
   have hD0:GA ({ m with log:=m.log++[y] }:Nd).store y=GA m.store y:=rfl
   rw[hD0]at hD
   obtain⟨D,yO⟩:=ZA (GA m.store y)
   obtain⟨E,hE⟩:=ZA (PK m.store y)
   obtain⟨c1,Ur⟩:=ZA (Rr m.store y)
   obtain⟨c2,Iu⟩:=ZA (LU m.store y)
   rw[←yO]at hD
   rw[←yO,←hE,←Ur,←Iu]at call
   have NK:=hD.len
   have DP:=hD.one
   unfold Wx at call
   have Hn:=ZO (zs:=Jr) (vs:=D) (by rw[NK];rfl)
   unfold Jr at Hn
   simp only[rep,List.cons_append,List.nil_append]at Hn
   have wA:∀(G:Hp) (k:Nat),G[k]? = some (.cells Jr.toArray 61)→wr G ⟨k,0,none⟩ D=some (G.setIfInBounds k (.cells D.toArray 61)):=fun G k hx=>by
    rw[ZR hx 0 D,ZO (by rw[NK];rfl),if_pos ⟨by rw[NK];simp[Jr,rep],DP⟩]
   have wB:∀(G:Hp) (k:Nat),G[k]? = some (.cells [.int .i64 0,.int .i64 0].toArray 40)→wr G ⟨k,0,none⟩ [.int .i64 c1,.int .i64 c2]=some (G.setIfInBounds k (.cells [.int .i64 c1,.int .i64 c2].toArray 40)):=fun G k hx=>by
    rw[ZR hx 0 _];rfl
   have gl:∀(G:Hp) (X Y:Obj),((G.push X).push Y)[G.size]? = some X:=fun G X Y=>by rw[Zs (by simp),Zb]
   have gs:∀(G:Hp) (k:Nat) (X Y:Obj),((G.setIfInBounds k X).push Y)[G.size]? = some Y:=fun G k X Y=>by
    have:=Zb (h:=G.setIfInBounds k X) (o:=Y);rwa [Array.size_setIfInBounds]at this
   have gl':=gs
   have gr:∀(G:Hp) (X Y:Obj),((G.push X).push Y)[G.size+1]? = some Y:=fun G X Y=>by
    have:=Zb (h:=G.push X) (o:=Y);rwa [Array.size_push]at this
   refine VS.mono (N:=fun F' g'=>Zg g4.size g4 g'∧F' 0=.pointer (some ⟨wb,0,none⟩)∧F' 1=.pointer (some ⟨nb,0,none⟩)∧F' 8=.pointer (some ⟨g.size,0,none⟩)∧∃A B,F' 10=.pointer (some ⟨A,0,none⟩)∧F' 11=.pointer (some ⟨B,0,none⟩)∧g4.size≤A∧g4.size≤B∧g'[A]? = some (.cells D.toArray 61)∧g'[B]? = some (.cells [.int .i64 c1,.int .i64 c2].toArray 40)) ?_ ?_ (fun _ _ _ h=>h) (fun _ _ h=>h)
   ·refine VS.z (g4.size) [5,12,13] (.p 0 (.p 1 (.p 2 (.q 3 (.q 4 (.or 5 (.p 6 (.p 7 (.p 8 (.p 9 (.or 10 (.s 11 (.w 12 (.w 13 (.p 14 .nil)))) (.s 11 (.s 10 (.w 12 (.w 13 (.p 14 .nil)))))))))) (.or 10 (.or 5 (.p 6 (.p 7 (.p 8 (.p 9 (.s 11 (.w 12 (.w 13 (.p 14 .nil)))))))) (.s 11 (.w 5 (.p 6 (.p 7 (.p 8 (.p 9 (.w 12 (.w 13 (.p 14 .nil)))))))))) (.s 11 (.or 5 (.p 6 (.p 7 (.p 8 (.p 9 (.s 10 (.w 12 (.w 13 (.p 14 .nil)))))))) (.s 10 (.w 5 (.p 6 (.p 7 (.p 8 (.p 9 (.w 12 (.w 13 (.p 14 .nil)))))))))))))))))) mixed (by kernel_rfl) ?_
    simp -implicitDefEqProofs only[go_sem,↓reduceIte,f20,f21,f28,R4s,Mb,hs4,r4]
    repeat' (first|with_reducible exact Zg.refl _ _|with_reducible exact Zg.push (by omega) _|with_reducible refine And.intro ?_ ?_)
    all_goals first
     | (refine (call g4).use ?_
        rintro _ g5 ⟨rfl,b5⟩
        have s5:=b5.size
        simp -implicitDefEqProofs only[go_sem,↓reduceIte,b5,NK,DP,Hn]
        refine⟨⟨f20,f21,f28,_,_,rfl,rfl,s5,by omega,gl _ _ _,gr _ _ _⟩,⟨f20,f21,f28,_,_,rfl,rfl,by omega,s5,gr _ _ _,gl _ _ _⟩⟩)
     | (refine (call (g4.push (.cells _ 61))).use ?_
        rintro _ g5 ⟨rfl,b5⟩
        have s5:=b5.size
        rw[Array.size_push]at s5
        have B5:Zg g4.size g4 g5:=(Zg.push (Nat.le_refl _) _).trans (b5.mono (by simp))
        have xA:=b5.get (k:=g4.size) (by simp) Zb
        have Tb:=wA _ _ xA
        have zA:=Za xA
        have gA:=Zv (o:=.cells D.toArray 61) xA
        simp -implicitDefEqProofs only[go_sem,↓reduceIte,B5,NK,DP,Tb,zA]
        exact⟨f20,f21,f28,_,_,rfl,rfl,Nat.le_refl _,by omega,by rw[Zs (by simpa using zA)];exact gA,gs _ _ _ _⟩)
     | (refine (call (g4.push (.cells _ 40))).use ?_
        rintro _ g5 ⟨rfl,b5⟩
        have s5:=b5.size
        rw[Array.size_push]at s5
        have B5:Zg g4.size g4 g5:=(Zg.push (Nat.le_refl _) _).trans (b5.mono (by simp))
        have xB:=b5.get (k:=g4.size) (by simp) Zb
        have L9:=wB _ _ xB
        have zB:=Za xB
        have gB:=Zv (o:=.cells [.int .i64 c1,.int .i64 c2].toArray 40) xB
        simp -implicitDefEqProofs only[go_sem,↓reduceIte,B5,NK,DP,L9,Hn,zB]
        exact⟨f20,f21,f28,_,_,rfl,rfl,by omega,Nat.le_refl _,gl' _ _ _ _,by rw[Zs (by simpa using zB)];exact gB⟩)
     | (refine (call ((g4.push (.cells _ 61)).push (.cells _ 40))).use ?_
        rintro _ g5 ⟨rfl,b5⟩
        have s5:=b5.size
        rw[Array.size_push,Array.size_push]at s5
        have B5:Zg g4.size g4 g5:=((Zg.push (Nat.le_refl _) _).Yh (by simp) _).trans (b5.mono (by simp;omega))
        have xA:=b5.get (k:=g4.size) (by simp;omega) (gl _ _ _)
        have xB:=b5.get (k:=g4.size+1) (by simp) (gr _ _ _)
        have Tb:=wA _ _ xA
        have zA:=Za xA
        have OJ:=(Yi (o:=.cells D.toArray 61) (show g4.size≠g4.size+1 by omega)).trans xB
        have L9:=wB _ _ OJ
        have zB:=Za OJ
        simp -implicitDefEqProofs only[go_sem,↓reduceIte,B5,NK,DP,Tb,zA,L9,zB]
        exact⟨f20,f21,f28,_,_,rfl,rfl,by omega,by omega,(Yi (by omega)).trans (Zv xA),Zv OJ⟩)
     | (refine (call ((g4.push (.cells _ 40)).push (.cells _ 61))).use ?_
        rintro _ g5 ⟨rfl,b5⟩
        have s5:=b5.size
        rw[Array.size_push,Array.size_push]at s5
        have B5:Zg g4.size g4 g5:=((Zg.push (Nat.le_refl _) _).Yh (by simp) _).trans (b5.mono (by simp;omega))
        have xB:=b5.get (k:=g4.size) (by simp;omega) (gl _ _ _)
        have xA:=b5.get (k:=g4.size+1) (by simp) (gr _ _ _)
        have Tb:=wA _ _ xA
        have zA:=Za xA
        have OJ:=(Yi (o:=.cells D.toArray 61) (show g4.size+1≠g4.size by omega)).trans xB
        have L9:=wB _ _ OJ
        have zB:=Za OJ
        simp -implicitDefEqProofs only[go_sem,↓reduceIte,B5,NK,DP,Tb,zA,L9,zB]
        exact⟨f20,f21,f28,_,_,rfl,rfl,by omega,by omega,(Yi (by omega)).trans (Zv xA),Zv OJ⟩)
   ·rintro F5 g5 ⟨b5,f50,f51,f58,A,B,f5A,f5B,hA,hB,yA,yB⟩
    have I5:=ZD K4.ZX b5
    have M5:=M4.still I5
    have V5:=V4.still I5
    have x5:=x4.Zd I5
    have K5:=K4.Z9 b5
    have z5:=Za M5.ZE.2
    have rA:rd g5 ⟨A,0,none⟩ 40=some D:=Zq yA NK
    obtain⟨g6,w6,M6,k6⟩:=ZV.write (n:={ m with log:=m.log++[y],store:=D }) { M5.pt with store:=hD } K5.ZX M5.ZE ((YK M5.ZE.2 M5.pt.store.len).store D NK DP)
    have V6:=V5.Zd k6 (by rintro t rfl;simp[Tg.of])
    have x6:=x5.Zd k6
    have K6:Kp (Qs i) o h o3 g6:=K5.trans (k6.mono fun t q=>.inr (.inr (.inl q)))
    have xB6:=(show ZM o3 g5 B _ from⟨K4.ZX _ (by omega),yB⟩).Zd k6
    have R6:=Zy M6.ZE.2 NK
    have z6:=Za M6.ZE.2
    clear R4 R4s Mb hs4 r4 R2 JD hs2 r2
    simp -implicitDefEqProofs only[go_sem,↓reduceIte,f50,f51,f58,f5A,f5B,rA,w6,NK,R6.queue,z5]
    refine (E7 T g6 o3 (.queue i) _ m.queue g.size y M6.pt.queue K6.ZX x6 (by omega)).use ?_
    rintro v7 g7 ⟨q7,k7⟩
    obtain⟨p7,c7,rfl,_⟩:=Yt.isSlice q7
    have b7:=M6.ZE.Zd k7 (by intro e;cases e)
    obtain⟨g8,w8,M8,k8⟩:=(M6.pt.I0 k7 q7).write k7.ZX b7 ((YK b7.2 NK).queue (.slice p7 _ c7) rfl)
    have z7:=Za b7.2
    have V8:=(V6.Zd k7 (by rintro t rfl;simp[Tg.of])).Zd k8 (by rintro t rfl;simp[Tg.of])
    have x8:=(x6.Zd k7).Zd k8
    have xB8:=(xB6.Zd k7).Zd k8
    have K8:Kp (Qs i) o h o3 g8:=(K6.trans (k7.mono fun t q=>.inr (.inr (.inr (.inr (.inr (.inl q))))))).trans (k8.mono fun t q=>.inr (.inr (.inl q)))
    have R8:=Zy M8.ZE.2 NK
    have z8:=Za M8.ZE.2
    simp -implicitDefEqProofs only[go_sem,↓reduceIte,f50,f51,f58,w8,z7,R8.waiting]
    refine (L4 T g8 _ m.waiting g.size y M8.pt.waiting.ts x8.2 (by omega)).use ?_
    rintro _ g9 ⟨rfl,b9⟩
    have kb9:=ZD K8.ZX b9
    have M9:=M8.still kb9
    have V9:=V8.still kb9
    have x9:=x8.Zd kb9
    have xB9:=xB8.Zd kb9
    have K9:=K8.Z9 b9
    have Ta:∃f',f=f'+1:=⟨f-1,by
     have:f≠0:=fun q=>by
      subst q
      have hj:j=L+1:=by omega
      have:=E8 n0.known n0.log.length (L+2) fun j' hj'=>by
       by_cases q:j'<j
       ·exact hjs j' q
       ·have:j'=j:=by omega
        subst this
        rw[←gU,←ad,hx];rfl
      rw[←hL]at this
      omega
     omega⟩
    obtain⟨f',rfl⟩:=Ta
    have lg:YJ (f'+1) m=((YJ f' (UW m y)).1,VT m y++(YJ f' (UW m y)).2):=by
     rw[YJ,hx]
    rw[lg]at g1 g2
    have Zd0:∀j',j'<j+1→(Xc n0.known ((n0.log.length+j':Nat):Int)).isSome=true:=fun j' hj'=>by
     by_cases q:j'<j
     ·exact hjs j' q
     ·have:j'=j:=by omega
      subst this
      rw[←gU,←ad,hx];rfl
    have qW:(m.queue.filter fun z=>decide (z≠y)).length≤m.queue.length:=List.length_filter_le _ _
    have mono:∀(G:Hp) (nn:Nd) (aa:NA) (oo:Ow),ZJ oo G wb i nb aa nn→nn.log.length=m.log.length+1→n0.log.length+L+2-aU (hc G ⟨nb,11,none⟩)<n0.log.length+L+2-m.log.length:=fun G nn aa oo H hh=>by
     have RR:=Zy H.ZE.2 H.pt.store.len
     obtain⟨lp,lc,OI,zX⟩:=Yt.isSlice H.pt.log
     have:aU (hc G ⟨nb,11,none⟩)=nn.log.length:=by rw[RR.log,OI];rfl
     rw[this,hh]
     omega
    by_cases hy:y∈m.waiting
    case neg=>
     have e1:Vu m.waiting y = -1:=by unfold Vu;rw[if_neg hy]
     have e2:VT m y=[]:=by unfold VT;rw[if_neg hy]
     have e3:m.waiting.erase y=m.waiting:=List.erase_of_not_mem hy
     rw[e2]at g2
     have e4:UW m y = { m with log:=m.log++[y],store:=D,queue:=m.queue.filter (fun z=>decide (z≠y)) }:=by unfold UW;rw[e3,←yO]
     rw[e4]at g1 g2
     rw[List.nil_append]at g2
     simp -implicitDefEqProofs only[go_sem,↓reduceIte,e1]
     unfold Y9
     refine⟨⟨f50,f51,o3,_,Xq,_,ts,f',j+1,K9,M9,V9,by omega,ad,by simp[gU];omega,by simp only;omega,hmw,by omega,Zd0,g1,g2⟩,mono _ _ _ _ M9 (by simp)⟩
    have e1:0≤Vu m.waiting y:=(PS _ _).2 hy
    have e5:Vu m.waiting y=(m.waiting.idxOf y:Nat):=by unfold Vu;rw[if_pos hy]
    obtain⟨r,hr⟩:=ZA (m.waiting.idxOf y)
    have nX:r<m.waiting.length:=by rw[hr];exact List.idxOf_lt_length_of_mem hy
    rw[←hr]at e5
    have e2:VT m y=[⟨m.me,y.c,y.s,Rr m.store y,LU m.store y⟩]:=by unfold VT;rw[if_pos hy]
    have e3:m.waiting.erase y=m.waiting.take r++m.waiting.drop (r+1):=by
     rw[List.erase_eq_eraseIdx_of_idxOf,List.eraseIdx_eq_take_drop_succ]
     exact hr.symm
    rw[e2]at g2
    have R9:=Zy M9.ZE.2 NK
    have z9:=Za M9.ZE.2
    simp -implicitDefEqProofs only[go_sem,↓reduceIte,e1,e5,f50,f51,f58,R9.waiting,z9]
    refine (EY T g9 o3 (.waiting i) _ m.waiting.length r _ M9.pt.waiting K9.ZX (rP _) nX (by omega)).use ?_
    rintro v10 yP ⟨q10,fw⟩
    have wl:(m.waiting.erase y).length=m.waiting.length-1:=by rw[e3,List.length_append,List.length_take,List.length_drop];omega
    have Q10:Qr o3 (.waiting i) yP v10 (m.waiting.erase y):=by
     unfold Qr
     rw[wl,e3,Yf,←Ss PQ _ _ (by omega),←Vv PQ _ _ (by omega)]
     exact q10
    obtain⟨p10,c10,rfl,_⟩:=Yt.isSlice Q10
    have b10:=M9.ZE.Zd fw (by intro e;cases e)
    obtain⟨oE,w11,M11,gX⟩:=(M9.pt.NF fw Q10).write fw.ZX b10 ((YK b10.2 NK).waiting (.slice p10 _ c10) rfl)
    have z10:=Za b10.2
    have V11:=(V9.Zd fw (by rintro t rfl;simp[Tg.of])).Zd gX (by rintro t rfl;simp[Tg.of])
    have x11:=(x9.Zd fw).Zd gX
    have Zd1:=(xB9.Zd fw).Zd gX
    have K11:Kp (Qs i) o h o3 oE:=(K9.trans (fw.mono fun t q=>.inr (.inr (.inr (.inr (.inr (.inr q))))))).trans (gX.mono fun t q=>.inr (.inr (.inl q)))
    have R11:=Zy M11.ZE.2 NK
    have z11:=Za M11.ZE.2
    have U11:=YS V11.ZE.2
    have Zmt:=Za V11.ZE.2
    have rx1:hc oE ⟨g.size,1,none⟩=some (.int .i64 y.c):=Zh x11.2
    have rx2:hc oE ⟨g.size,2,none⟩=some (.int .i64 y.s):=Zh x11.2
    have rB:rd oE ⟨B,0,none⟩ 2=some [.int .i64 c1,.int .i64 c2]:=Zq Zd1.2 rfl
    have Zmv:=Za x11.2
    have Zmw:=Za Zd1.2
    simp -implicitDefEqProofs only[go_sem,↓reduceIte,w11,z10]
    refine VS.z (oE.size) [17,21] (.p 0 (.p 1 (.p 2 (.p 3 (.p 4 (.q 5 (.p 6 (.p 7 (.p 8 (.q 9 (.p 10 (.q 11 (.p 12 (.q 13 (.q 14 (.p 15 (.s 16 (.w 17 (.p 18 (.p 19 (.p 20 (.w 21 .nil)))))))))))))))))))))) mixed (by kernel_rfl) ?_
    simp -implicitDefEqProofs only[go_sem,↓reduceIte,f50,f51,f58,f5B,U11.told,R11.me,rx1,rx2,rB,z11,Zmt,Zmv,Zmw]
    have rR:=ZY K11.ZX (.cells (L0 ⟨m.me,y.c,y.s,c1,c2⟩).toArray 42)
    have V12:=V11.still rR
    refine NJ (l:=told++ts) (x:=⟨m.me,y.c,y.s,c1,c2⟩) V12.told rR.ZX Zb (by rw[List.length_append];omega) ?_
    intro p13 c13 o13 g13 q13 k13
    have uW:=V12.ZE.Zd k13 (by intro e;cases e)
    obtain⟨g14,w14,V14,k14⟩:=V12.aT k13 q13 ((YS uW.2).uU (.slice p13 _ c13) rfl)
    have z13:=Za uW.2
    simp -implicitDefEqProofs only[go_sem,↓reduceIte,w14,z13]
    have M14:=((M11.still rR).Zd k13 (by rintro t rfl;simp[Tg.of])).Zd k14 (by rintro t rfl;simp[Tg.of])
    have K14:Kp (Qs i) o h o13 g14:=(((K11.trans (ZF rR)).trans (k13.mono fun t q=>.inr (.inl q))).trans (k14.mono fun t q=>.inl q))
    have e4:UW m y = { m with log:=m.log++[y],store:=D,queue:=m.queue.filter (fun z=>decide (z≠y)),waiting:=m.waiting.erase y }:=by unfold UW;rw[←yO]
    rw[e4]at g1 g2
    rw[←Ur,←Iu]at g2
    obtain⟨ZxV,V15⟩:∃A,ZG o13 g14 wb Z6 A fl bad (told++(ts++[⟨m.me,y.c,y.s,c1,c2⟩])):=⟨_,by rw[←List.append_assoc];exact V14⟩
    rw[←List.append_assoc]at g2
    unfold Y9
    refine⟨⟨f50,f51,o13,_,_,_,ts++[⟨m.me,y.c,y.s,c1,c2⟩],f',j+1,K14,M14,V15,by omega,ad,by simp[gU];omega,by simp only;omega,by simp only;omega,by simp;omega,Zd0,g1,g2⟩,mono _ _ _ _ M14 (by simp)⟩
def Zd2 (o:Ow) (h:Hp) (wb:Nat) (Z6:Nat→Nat) (fl:List Y2) (bad:Nat→Int) (told:List TV) (h':Hp):Prop:=
 ∃o' Xq,Kp aQ o h o' h'∧ZG o' h' wb Z6 Xq fl bad told
theorem aV (T:World) (h:Hp) (o:Ow) (wb nb:Nat) (Z6:Nat→Nat) (me:Nat) (YA:WA) (fl:List Y2) (bad:Nat→Int) (told:List TV) (b3 b4 b5 b7:Nat) (l:Y2) (w5 w:Value) (vs:List Vt) (d:Q8 o h)
  (W:ZG o h wb Z6 YA fl bad told) (oC:hc h ⟨nb,0,none⟩=some (.int .i64 me)) (WX:nb<h.size) (Ym:fl.length≤1000000000000)
  (x3:ZM o h b3 (.cells [Zp wb].toArray 117)) (x4:ZM o h b4 (.cells [Zp nb].toArray 124)) (x5:ZM o h b5 (.cells (YR l w5).toArray 163)) (x7:ZM o h b7 (.cells [w].toArray 129)) (iv:U6 o h w vs) :
  Zc Tryz.prog T 122 #[Zp b3,Zp b4,Zp b5,Zp b7] h fun v' h'=>Zd2 o h wb Z6 (fl++[⟨1,me,l.Jl,l.b,TQ,vs⟩]) bad told h':=by
 obtain⟨pw,cw,rfl⟩:=iv.isSlice
 refine Zc.Zi (args:=[_,_,_,_]) Tryz.func122 rfl rfl rfl rfl ?_
 unfold Zp
 have r3:hc h ⟨b3,0,none⟩=some (Zp wb):=Zh x3.2
 have r4:hc h ⟨b4,0,none⟩=some (Zp nb):=Zh x4.2
 have r5:hc h ⟨b5,1,none⟩=some (.int .i64 l.Jl):=Zh x5.2
 have r6:rd h ⟨b5,3,none⟩ 2=some [.int .i64 l.b.r,.int .i64 l.b.n]:=by rw[Z5 x5.2 (by simp[YR])];rfl
 have r7:hc h ⟨b7,0,none⟩=some (.slice pw vs.length cw):=Zh x7.2
 simp -implicitDefEqProofs only[go_sem,↓reduceIte,r3,r4,r5,r6,r7]
 refine (Uy T h o wb nb Z6 me YA fl bad told l.Jl ⟨1,0,0,l.b,TQ,vs⟩ _ d W oC WX iv Ym).use ?_
 rintro v' h' ⟨o',Xq,k,_,W'⟩
 simp -implicitDefEqProofs only[go_sem,↓reduceIte]
 exact⟨o',Xq,k,W'⟩
theorem aW (T:World) (h:Hp) (o:Ow) (wb nb:Nat) (Z6:Nat→Nat) (me:Nat) (YA:WA) (fl:List Y2) (bad:Nat→Int) (told:List TV) (b3 b4 b5:Nat) (l:Y2) (w5:Value) (d:Q8 o h)
  (W:ZG o h wb Z6 YA fl bad told) (oC:hc h ⟨nb,0,none⟩=some (.int .i64 me)) (WX:nb<h.size) (Ym:fl.length≤1000000000000)
  (x3:ZM o h b3 (.cells [Zp wb].toArray 117)) (x4:ZM o h b4 (.cells [Zp nb].toArray 124)) (x5:ZM o h b5 (.cells (YR l w5).toArray 163)) :
  Zc Tryz.prog T 127 #[Zp b3,Zp b4,Zp b5] h fun v' h'=>Zd2 o h wb Z6 (fl++[⟨3,me,l.Jl,JA,l.v,[]⟩]) bad told h':=by
 refine Zc.Zi (args:=[_,_,_]) Tryz.func127 rfl rfl rfl rfl ?_
 unfold Zp
 have r3:hc h ⟨b3,0,none⟩=some (Zp wb):=Zh x3.2
 have r4:hc h ⟨b4,0,none⟩=some (Zp nb):=Zh x4.2
 have r5:hc h ⟨b5,1,none⟩=some (.int .i64 l.Jl):=Zh x5.2
 have r6:rd h ⟨b5,5,none⟩ 8=some (Zo l.v):=by rw[Z5 x5.2 (by simp[YR])];rfl
 unfold Zo at r6
 simp -implicitDefEqProofs only[go_sem,↓reduceIte,r3,r4,r5,r6]
 refine (Uy T h o wb nb Z6 me YA fl bad told l.Jl ⟨3,0,0,JA,l.v,[]⟩ (.slice none 0 0) d W oC WX (Im.nil _ _ _ _) Ym).use ?_
 rintro v' h' ⟨o',Xq,k,_,W'⟩
 simp -implicitDefEqProofs only[go_sem,↓reduceIte]
 exact⟨o',Xq,k,W'⟩
def yQ (i:Nat) (t:Tg):Prop:=t=.world∨t=.Zn∨t=.node i∨t=.prom i∨t=.Xk i
theorem rS (T:World) (h:Hp) (o:Ow) (wb i nb:Nat) (Z6:Nat→Nat) (YA:WA) (fl:List Y2) (bad:Nat→Int) (told:List TV) (a:NA) (n:Nd) (acc:Ww) (to:Int) (b:XK) (vs:List Vt) (b6 b4 b9:Nat) (u:Value) (d:Q8 o h)
  (N:ZJ o h wb i nb a n) (W:ZG o h wb Z6 YA fl bad told) (Ym:fl.length≤1000000000000)
  (x6:T1 o h b6 acc) (x4:ZM o h b4 (.cells [Zp nb].toArray 124)) (x9:ZM o h b9 (.cells [u].toArray 1)) (hu:mB o h wb nb u to b vs) :
  Zc Tryz.prog T 124 #[Zp b6,Zp b4,Zp b9] h fun v' h'=>∃o' a' Xq,Kp (yQ i) o h o' h'∧ZJ o' h' wb i nb a' { n with own:=acc }∧ZG o' h' wb Z6 Xq (fl++[⟨1,n.me,to,b,TQ,vs⟩]) bad told:=by
 obtain⟨wa,xa,ia⟩:=x6
 obtain⟨pa,ca,rfl⟩:=ia.isSlice
 obtain⟨b3,Bf,b5,b7,l,w5,w,rfl,y3,y4,y5,rfl,rfl,y7,iv⟩:=hu
 have WX:=Za N.ZE.2
 refine Zc.Zi (args:=[_,_,_]) Tryz.func124 rfl rfl rfl rfl ?_
 unfold Zp
 have r4:hc h ⟨b4,0,none⟩=some (Zp nb):=Zh x4.2
 have r6:rd h ⟨b6,0,none⟩ 3=some [.int .i64 acc.p.r,.int .i64 acc.p.n,.slice pa acc.l.length ca]:=Zq xa.2 rfl
 obtain⟨g1,w1,N1,k1⟩:=ZV.write (a:={ a with YG:=.slice pa acc.l.length ca }) (n:={ n with own:=acc }) { N.pt with YG:=ia } d N.ZE ((YK N.ZE.2 N.pt.store.len).own acc.p.r acc.p.n (.slice pa acc.l.length ca) rfl)
 have W1:=W.Zd k1 (by rintro t rfl;simp[Tg.of])
 have x91:=x9.Zd k1
 have r9:hc g1 ⟨b9,0,none⟩=some (Wb 122 [b3,Bf,b5,b7]):=Zh x91.2
 unfold Wb at r9
 simp only[List.map]at r9
 unfold Zp at r4 r9
 simp -implicitDefEqProofs only[go_sem,↓reduceIte,r4,r6,w1,WX,r9]
 have R1:=Zy N1.ZE.2 N1.pt.store.len
 refine (aV T g1 o wb nb Z6 n.me YA fl bad told b3 Bf b5 b7 l w5 w vs k1.ZX W1 R1.me (Za N1.ZE.2) Ym (y3.Zd k1) (y4.Zd k1) (y5.Zd k1) (y7.Zd k1) (iv.Zd k1)).use ?_
 rintro v' h' ⟨o',Xq,k,W'⟩
 simp -implicitDefEqProofs only[go_sem,↓reduceIte]
 exact⟨o',_,Xq,(k1.mono fun t q=>.inr (.inr (.inl q))).trans (k.mono fun t q=>q.elim .inl fun q=>.inr (.inl q)),N1.Zd k (by rintro t (rfl|rfl)<;>simp[Tg.of]),W'⟩
theorem rT (T:World) (h:Hp) (o:Ow) (wb i nb:Nat) (Z6:Nat→Nat) (YA:WA) (fl:List Y2) (bad:Nat→Int) (told:List TV) (a:NA) (n:Nd) (acc:Ww) (to:Int) (x:Vt) (b6 b4 b9:Nat) (u:Value) (d:Q8 o h)
  (N:ZJ o h wb i nb a n) (W:ZG o h wb Z6 YA fl bad told) (Ym:fl.length≤1000000000000)
  (x6:T1 o h b6 acc) (x4:ZM o h b4 (.cells [Zp nb].toArray 124)) (x9:ZM o h b9 (.cells [u].toArray 1)) (hu:mC o h wb nb u to x) :
  Zc Tryz.prog T 130 #[Zp b6,Zp b4,Zp b9] h fun v' h'=>∃o' a' Xq,Kp (yQ i) o h o' h'∧ZJ o' h' wb i nb a' { n with own:=acc }∧ZG o' h' wb Z6 Xq (fl++[⟨3,n.me,to,JA,x,[]⟩]) bad told:=by
 obtain⟨wa,xa,ia⟩:=x6
 obtain⟨pa,ca,rfl⟩:=ia.isSlice
 obtain⟨b3,Bf,b5,l,w5,rfl,y3,y4,y5,rfl,rfl⟩:=hu
 have WX:=Za N.ZE.2
 refine Zc.Zi (args:=[_,_,_]) Tryz.func130 rfl rfl rfl rfl ?_
 unfold Zp
 have r4:hc h ⟨b4,0,none⟩=some (Zp nb):=Zh x4.2
 have r6:rd h ⟨b6,0,none⟩ 3=some [.int .i64 acc.p.r,.int .i64 acc.p.n,.slice pa acc.l.length ca]:=Zq xa.2 rfl
 obtain⟨g1,w1,N1,k1⟩:=ZV.write (a:={ a with YG:=.slice pa acc.l.length ca }) (n:={ n with own:=acc }) { N.pt with YG:=ia } d N.ZE ((YK N.ZE.2 N.pt.store.len).own acc.p.r acc.p.n (.slice pa acc.l.length ca) rfl)
 have W1:=W.Zd k1 (by rintro t rfl;simp[Tg.of])
 have x91:=x9.Zd k1
 have r9:hc g1 ⟨b9,0,none⟩=some (Wb 127 [b3,Bf,b5]):=Zh x91.2
 unfold Wb at r9
 simp only[List.map]at r9
 unfold Zp at r4 r9
 simp -implicitDefEqProofs only[go_sem,↓reduceIte,r4,r6,w1,WX,r9]
 have R1:=Zy N1.ZE.2 N1.pt.store.len
 refine (aW T g1 o wb nb Z6 n.me YA fl bad told b3 Bf b5 l w5 k1.ZX W1 R1.me (Za N1.ZE.2) Ym (y3.Zd k1) (y4.Zd k1) (y5.Zd k1)).use ?_
 rintro v' h' ⟨o',Xq,k,W'⟩
 simp -implicitDefEqProofs only[go_sem,↓reduceIte]
 exact⟨o',_,Xq,(k1.mono fun t q=>.inr (.inr (.inl q))).trans (k.mono fun t q=>q.elim .inl fun q=>.inr (.inl q)),N1.Zd k (by rintro t (rfl|rfl)<;>simp[Tg.of]),W'⟩
theorem QK.ins {o:Ow} {h:Hp} {k:Int} {w:Value} {vs:List Vt} (iv:U6 o h w vs):∀{pv:List (Int × Value)} {pr:List (Int × List Vt)},QK o h pv pr→QK o h (Go.V.ins pv k w) (Go.V.ins pr k vs):=by
 intro pv pr s
 induction s with
 | nil=>exact .cons ⟨rfl,iv⟩ .nil
 | @cons a b l m HE _ ih=>
  obtain⟨a1,a2⟩:=a
  obtain⟨b1,b2⟩:=b
  obtain⟨rfl,h2⟩:=HE
  show FJ _ (if a1=k then (a1,w) :: l else (a1,a2) :: Go.V.ins l k w) (if a1=k then (a1,vs) :: m else (a1,b2) :: Go.V.ins m k vs)
  by_cases q:a1=k
  ·rw[if_pos q,if_pos q];exact .cons ⟨rfl,iv⟩ (by assumption)
  ·rw[if_neg q,if_neg q];exact .cons ⟨rfl,h2⟩ ih
theorem QK.length {o:Ow} {h:Hp} {pv:List (Int × Value)} {pr:List (Int × List Vt)} (s:QK o h pv pr):pv.length=pr.length:=by
 induction s with
 | nil=>rfl
 | cons _ _ ih=>simp[ih]
theorem QK.Xc {o:Ow} {h:Hp} {pv:List (Int × Value)} {pr:List (Int × List Vt)} (s:QK o h pv pr) (k:Int):(Go.V.Xc pv k=none∧Go.V.Xc pr k=none)∨∃w vs,Go.V.Xc pv k=some w∧Go.V.Xc pr k=some vs∧U6 o h w vs:=by
 induction s with
 | nil=>exact .inl ⟨rfl,rfl⟩
 | @cons a b l m HE _ ih=>
  obtain⟨a1,a2⟩:=a
  obtain⟨b1,b2⟩:=b
  obtain⟨rfl,h2⟩:=HE
  unfold Go.V.Xc
  by_cases q:a1=k
  ·rw[if_pos q,if_pos q];exact .inr ⟨_,_,rfl,rfl,h2⟩
  ·rw[if_neg q,if_neg q];exact ih
theorem YC.aX {o:Ow} {i:Nat} {h:Hp} {ra:RA} {r:Qg} (s:YC o i h ra r) (d:Q8 o h) {k:Int} {w:Value} {vs:List Vt} (iv:U6 o h w vs) :
  Kp (fun t=>t=.prom i) o h o (h.setIfInBounds ra.pb (Xi (ins ra.pv k w)))∧YC o i (h.setIfInBounds ra.pb (Xi (ins ra.pv k w))) { ra with pv:=ins ra.pv k w } { r with prom:=ins r.prom k vs }:=by
 have kk:Kp (fun t=>t=.prom i) o h o (h.setIfInBounds ra.pb (Xi (ins ra.pv k w))):=(Kp.refl d (fun t=>t=.prom i)).set s.prom.1 rfl _
 exact⟨kk,s.ZE.Zd kk (by intro e;cases e),⟨s.prom.1,Zv s.prom.2⟩,QK.Zd (QK.ins iv s.TZ) kk,s.prop.Zd kk (by intro e;cases e),s.Jm.Zd kk (by intro e;cases e),s.VW.Zd kk (fun _ e=>by cases e),s.keys⟩
theorem ZV.fy {o o':Ow} {h h':Hp} {wb i nb:Nat} {a:NA} {n:Nd} (s:ZV o h wb i nb a n) (k:Kp (fun t=>t=.Xk i) o h o' h') (hp:n.ZS=none):ZV o' h' wb i nb a n:=
 ⟨s.data.Zd k,s.YG.Zd k,s.Zj.Zd k (fun t ht=>by rcases ht with rfl|rfl|rfl|rfl|⟨z,rfl⟩<;>intro e<;>cases e),s.known.Zd k (by intro e;cases e),s.log.Zd k (by intro e;cases e),s.queue.Zd k (by intro e;cases e),s.waiting.Zd k (by intro e;cases e),s.inbox.Zd k (by intro e;cases e),by
  have:=s.ZS
  rw[hp]at this ⊢
  exact this,s.store⟩
theorem NL {n:Nd} {a:NA} {ra ra':RA} (r:Option Qg) (h:a.Zj=some ra) (hb:ra'.rb=ra.rb):Y8 { n with Zj:=r } { a with Zj:=some ra' } = Y8 n a:=by
 unfold Y8 Un
 simp only[h,Rs,hb]
def ZmB (i:Nat) (t:Tg):Prop:=t=.node i∨t=.prom i∨t=.Xk i
theorem rU (T:World) (h:Hp) (o:Ow) (wb i nb:Nat) (a:NA) (n:Nd) (acc:Ww) (vs:List Vt) (cur:Bool) (v:Value) (d:Q8 o h)
  (N:ZJ o h wb i nb a n) (hp:n.ZS=none) (hv:ZdU o h i nb a.Zj v acc vs cur) :
  ∃b6 b4 b7 b5,v=Wb 131 [b6,b4,b7,b5]∧Zc Tryz.prog T 131 #[Zp b6,Zp b4,Zp b7,Zp b5] h fun v' h'=>∃o' a',Kp (ZmB i) o h o' h'∧ZJ o' h' wb i nb a' { n with own:=acc,Zj:=if cur=true then n.Zj.map (fun r=>{ r with prom:=ins r.prom n.me vs }) else n.Zj }:=by
 obtain⟨b6,b4,b7,b5,w,rb,rfl,⟨wa,xa,ia⟩,x4,x7,iv,x5,Zd3⟩:=hv
 obtain⟨pa,ca,rfl⟩:=ia.isSlice
 obtain⟨pw,cw,rfl⟩:=iv.isSlice
 refine⟨b6,b4,b7,b5,rfl,?_⟩
 have WX:=Za N.ZE.2
 refine Zc.Zi (args:=[_,_,_,_]) Tryz.func131 rfl rfl rfl rfl ?_
 unfold Zp
 have r4:hc h ⟨b4,0,none⟩=some (Zp nb):=Zh x4.2
 have r6:rd h ⟨b6,0,none⟩ 3=some [.int .i64 acc.p.r,.int .i64 acc.p.n,.slice pa acc.l.length ca]:=Zq xa.2 rfl
 obtain⟨g1,w1,N1,k1⟩:=ZV.write (a:={ a with YG:=.slice pa acc.l.length ca }) (n:={ n with own:=acc }) { N.pt with YG:=ia } d N.ZE ((YK N.ZE.2 N.pt.store.len).own acc.p.r acc.p.n (.slice pa acc.l.length ca) rfl)
 unfold Zp at r4
 simp -implicitDefEqProofs only[go_sem,↓reduceIte,r4,r6,w1,WX]
 have y4:=x4.Zd k1
 have y5:=x5.Zd k1
 have y7:=x7.Zd k1
 have q4:hc g1 ⟨b4,0,none⟩=some (Zp nb):=Zh y4.2
 have q5:hc g1 ⟨b5,0,none⟩=some (Zp rb):=Zh y5.2
 have q7:hc g1 ⟨b7,0,none⟩=some (.slice pw vs.length cw):=Zh y7.2
 unfold Zp at q4 q5
 have l4:=Za y4.2
 have l5:=Za y5.2
 have l7:=Za y7.2
 have R1:=Zy N1.ZE.2 N1.pt.store.len
 have lnb:=Za N1.ZE.2
 have rW:=iv.Zd k1
 refine VS.z (g1.size) [9] (.q 0 (.p 1 (.p 2 (.q 3 (.q 4 (.p 5 (.p 6 (.q 7 (.q 8 (.w 9 .nil)))))))))) mixed (by kernel_rfl) ?_
 cases cur with
 | true=>
  obtain⟨ra,OK,rfl⟩:=Zd3
  have hR:=N1.pt.Zj
  have fB:({ a with YG:=.slice pa acc.l.length ca }:NA).Zj=some ra:=OK
  rw[fB]at hR
  cases hr:n.Zj with
  | none=>rw[show ({ n with own:=acc }:Nd).Zj=none from hr]at hR;exact hR.elim
  | some r=>
   rw[show ({ n with own:=acc }:Nd).Zj=some r from hr]at hR
   have hR:YC o i g1 ra r:=hR
   have rr:hc g1 ⟨ra.rb,2,none⟩=some (.map (some ra.pb)):=Zh hR.ZE.2
   have DQ:=Za hR.ZE.2
   simp -implicitDefEqProofs only[go_sem,↓reduceIte,q4,q5,q7,l4,l5,l7,lnb,R1.me,rr,DQ]
   rw[XJ NB hR.prom.2]
   simp -implicitDefEqProofs only[go_sem,↓reduceIte]
   obtain⟨k2,R2⟩:=hR.aX k1.ZX (k:=n.me) rW
   have k2':Kp (XA i) o g1 o _:=k2.mono fun t q=>.inr (.inl q)
   refine⟨o,{ ({ a with YG:=.slice pa acc.l.length ca }:NA) with Zj:=some { ra with pv:=ins ra.pv n.me (.slice pw vs.length cw) } },(k1.mono fun t q=>.inl q).trans (k2.mono fun t q=>.inr (.inl q)),?_,?_⟩
   ·have:=N1.ZE.Zd k2 (by intro e;cases e)
    rw[←NL (some { r with prom:=ins r.prom n.me vs }) fB (ra':={ ra with pv:=ins ra.pv n.me (.slice pw vs.length cw) }) rfl]at this
    exact this
   ·exact ZV.Qa N1.pt k2' fB rfl R2
 | false=>
  obtain⟨cs,pb,pv,y1,y2,y3⟩:=Zd3
  have z1:=y1.Zd k1 (by intro e;cases e)
  have z3:=y3.Zd k1 (by intro e;cases e)
  have rr:hc g1 ⟨rb,2,none⟩=some (.map (some pb)):=by rw[Va z1.2];exact y2
  have DQ:=Za z1.2
  simp -implicitDefEqProofs only[go_sem,↓reduceIte,q4,q5,q7,l4,l5,l7,lnb,R1.me,rr,DQ]
  rw[XJ NB z3.2]
  simp -implicitDefEqProofs only[go_sem,↓reduceIte]
  have k2:Kp (fun t=>t=.Xk i) o g1 o (g1.setIfInBounds pb (Xi (ins pv n.me (.slice pw vs.length cw)))):=(Kp.refl k1.ZX (fun t=>t=.Xk i)).set z3.1 rfl _
  exact⟨o,_,(k1.mono fun t q=>.inl q).trans (k2.mono fun t q=>.inr (.inr q)),N1.ZE.Zd k2 (by intro e;cases e),N1.pt.fy k2 hp⟩
end Go.Proofs.YtkfhncfkagcamaaGreatDoor

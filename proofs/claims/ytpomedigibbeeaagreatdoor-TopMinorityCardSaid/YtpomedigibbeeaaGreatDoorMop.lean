/- The nodes of a cluster, in plain words: what each piece of the program makes of them. Definitions alone. -/
import Derived.Test.YtpomedigibbeeaaGreatDoorOpn
import Derived.Test.YtpomedigibbeeaaGreatDoorMix
import Derived.Test.YtpomedigibbeeaaGreatDoorChw
import Derived.Test.YtpomedigibbeeaaGreatDoorPik
import Derived.Test.YtpomedigibbeeaaGreatDoorW25
namespace Go.Proofs.YtpomedigibbeeaaGreatDoor
open Go Go.V
set_option linter.unusedSimpArgs false
set_option linter.unusedVariables false
deriving instance DecidableEq for XL
deriving instance DecidableEq for Vt
deriving instance DecidableEq for Qc
abbrev Cm:=Qc
def oF:Cm:=⟨0,0,0,0,0⟩
def Qc.C (x:Qc):List Value:=Qb x.k x.c x.s x.n x.v
def Qc.err (x:Qc):Int:=YJ x.k x.c x.s x.n x.v
def Vt.cm (v:Vt):Cm:=⟨v.k,v.c,v.s,v.nm,v.v⟩
def Tf (s:Int) (b:XL) (x:Cm):Vt:=⟨s,b,x.k,x.c,x.s,x.n,x.v⟩
def Jy:XL:=⟨0,0⟩
structure YY where
 kind:Int
 Jj:Int
 to:Int
 b:XL
 v:Vt
 vs:List Vt
structure Qd where
 b:XL
 prom:List (Int × List Vt)
 begun:Bool
 prop:List (Int × Cm)
 Jk:List (Int × List (Int × Unit))
inductive DS where
 | Ig (a:WT) (to:Int) (b:XL) (vs:List Vt)
 | Kx (a:WT) (to:Int) (v:Vt)
 | own (a:WT) (vs:List Vt) (cur:Bool)
structure Nd where
 me:Nat
 up:Bool
 data:List Nat
 Xq:Int
 own:WT
 heard:XL
 Zi:Option Qd
 known:List (Int × Cm)
 log:List Cm
 store:List Value
 queue:List Cm
 waiting:List Cm
 inbox:List YY
 ZQ:Option DS
 Xh:Int
structure TS where
 node:Int
 c:Int
 s:Int
 code:Int
 val:Int
structure Wd where
 nodes:Nat→Nd
 Zl:List YY
 bad:Nat→Int
 told:List TS
structure Out where
 n:Nd
 ls:List YY
 ts:List TS
def YO (n:Nd) (l:YY):Out:=
 if Yu n.own.p n.own.l l.b≠0 then ⟨n,[⟨7,n.me,l.Jj,n.own.p,Tm,[]⟩],[]⟩
 else if n.own.p=l.b then ⟨n,[⟨1,n.me,l.Jj,l.b,Tm,n.own.l⟩],[]⟩
 else if Qn n.data n.Xq l.b≠0 then ⟨n,[],[]⟩
 else ⟨{ n with data:=n.data++Y0 (Qo l.b),ZQ:=some (.Ig ⟨l.b,n.own.l⟩ l.Jj l.b n.own.l) },[],[]⟩
def asked (n:Nd) (l:YY):Out:=
 if YT n.own.p n.own.l l.v≠0 then ⟨n,[⟨7,n.me,l.Jj,n.own.p,Tm,[]⟩],[]⟩
 else if l.v∈n.own.l then ⟨n,[⟨3,n.me,l.Jj,Jy,l.v,[]⟩],[]⟩
 else if Uc n.data n.Xq l.v≠0 then ⟨n,[],[]⟩
 else ⟨{ n with data:=n.data++Y0 (Sw l.v),ZQ:=some (.Kx ⟨l.v.b,Qv n.own.l l.v⟩ l.Jj l.v) },[],[]⟩
def GC (st:List Value) (x:Cm):List Value:=if PB st x=0 then (Vm st x).cells else Jp
def Ri (st:List Value) (x:Cm):Int:=if PB st x=0 then (Vm st x).code else 0
def LU (st:List Value) (x:Cm):Int:=if PB st x=0 then (Vm st x).val else 0
def UQ (n:Nd) (x:Cm):Nd:={ n with log:=n.log++[x],store:=GC n.store x,queue:=n.queue.filter (fun y=>decide (y≠x)),waiting:=n.waiting.erase x }
def VO (n:Nd) (x:Cm):List TS:=if x∈n.waiting then [⟨n.me,x.c,x.s,Ri n.store x,LU n.store x⟩] else []
def YH:Nat→Nd→Nd × List TS
 | 0,n=>(n,[])
 | k+1,n=>match Y9 n.known n.log.length with
  | none=>(n,[])
  | some x=>((YH k (UQ n x)).1,VO n x++(YH k (UQ n x)).2)
def Ud (n:Nd) (s:Int) (x:Cm):Nd:={ n with known:=ins n.known s x }
def Ui (n:Nd) (s:Int) (x:Cm):Out:=
 ⟨(YH ((Ud n s x).known.length+1) (Ud n s x)).1,[],(YH ((Ud n s x).known.length+1) (Ud n s x)).2⟩
def yR (n:Nd) (r:Qd) (l:YY):Nd:={ n with Zi:=some { r with prom:=ins r.prom l.Jj l.vs } }
def Th (r:Qd) (l:YY):List (Int × Unit):=ins ((Y9 r.Jk l.v.slot).getD []) l.Jj ()
def NV (n:Nd) (r:Qd) (l:YY):Nd:={ n with Zi:=some { r with Jk:=ins r.Jk l.v.slot (Th r l) } }
def Yr (n:Nd) (l:YY):Out:=
 match n.Zi with
 | none=>⟨n,[],[]⟩
 | some r=>
  if l.kind=1 then (if l.b=r.b then ⟨yR n r l,[],[]⟩ else ⟨n,[],[]⟩)
  else if l.v.b≠r.b then ⟨n,[],[]⟩
  else if 5<2*(Th r l).length then Ui (NV n r l) l.v.slot l.v.cm
  else ⟨NV n r l,[],[]⟩
def add (n:Nd) (x:Cm):Nd:=if x∈n.queue∨x∈n.log then n else { n with queue:=n.queue++[x] }
def notes (n:Nd) (l:YY):Nd:=if below n.heard l.b then { n with heard:=l.b } else n
def UR (n:Nd) (l:YY):Out:=
 match Y9 n.known l.v.slot with
 | some x=>⟨notes n l,[⟨6,n.me,l.Jj,Jy,Tf l.v.slot Jy x,[]⟩],[]⟩
 | none=>⟨notes n l,[],[]⟩
def handle (n:Nd) (l:YY):Out:=
 if l.kind=0 then YO n l else if l.kind=1∨l.kind=3 then Yr n l else if l.kind=2 then asked n l
 else if l.kind=4 then ⟨add n l.v.cm,[],[]⟩ else if l.kind=5 then UR n l else if l.kind=6 then Ui n l.v.slot l.v.cm else ⟨notes n l,[],[]⟩
def XE (r:Qd):List (List Vt):=(List.range 5).map fun (m:Nat)=>(Y9 r.prom (m:Int)).getD []
def EW (l:List Vt):Int:=l.foldl (fun t v=>if t<v.slot then v.slot else t) (-1)
def EX (LL:List (List Vt)) (s:Int):Cm:=if Sk s LL.flatten=0 then (UO s LL.flatten).cm else oF
def QI (n:Nd) (LL:List (List Vt)) (pr:List (Int × Cm)) (s:Nat):List (Int × Cm):=if Y9 n.known (s:Int)=none then ins pr (s:Int) (EX LL s) else pr
def TT (n:Nd) (r:Qd):Qd:=
 { r with prop:=(List.range' n.log.length ((EW (XE r).flatten+1).toNat-n.log.length)).foldl (QI n (XE r)) r.prop,begun:=true }
def Ue (n:Nd) (r:Qd) (x:Cm):Nat→Nat→Option Nat
 | 0,_=>none
 | k+1,s=>if Y9 r.prop (s:Int)=some x∨Y9 n.known (s:Int)=some x then none
  else if Y9 r.prop (s:Int)=none∧Y9 n.known (s:Int)=none then some s else Ue n r x k (s+1)
def free (n:Nd) (r:Qd) (x:Cm):Option Nat:=Ue n r x (40-n.log.length) n.log.length
def Vn (n:Nd) (r:Qd) (x:Cm):Qd:=match free n r x with|some s=>{ r with prop:=ins r.prop (s:Int) x }|none=>r
def Jz (n:Nd) (r:Qd) (l:List Cm):Qd:=l.foldl (Vn n) r
def Rj (n:Nd) (r:Qd):List YY:=(List.range 5).flatMap fun (m:Nat)=>if Y9 r.prom (m:Int)=none then [⟨0,n.me,m,r.b,Tm,[]⟩] else []
def PD (n:Nd) (r:Qd) (s:Nat) (x:Cm) (m:Nat):List YY:=if Y9 ((Y9 r.Jk (s:Int)).getD []) (m:Int)=none then [⟨2,n.me,m,Jy,Tf s r.b x,[]⟩] else []
def WJ (n:Nd) (r:Qd) (s:Nat):List YY:=match Y9 r.prop (s:Int) with
 | some x=>if Y9 n.known (s:Int)=none then (List.range 5).flatMap (PD n r s x) else []
 | none=>[]
def LV (n:Nd) (r:Qd):List YY:=(List.range 40).flatMap (WJ n r)
def LW (n:Nd) (r:Qd):Qd:=Jz n (if r.begun=true then r else TT n r) n.queue
def JU (n:Nd) (r:Qd):Out:=
 if below n.own.p r.b then
  (if Qn n.data n.Xq r.b≠0 then ⟨n,[],[]⟩ else
    ⟨{ n with data:=n.data++Y0 (Qo r.b),ZQ:=some (.own (if Yu n.own.p n.own.l r.b=0 then ⟨r.b,n.own.l⟩ else Qp) (if Yu n.own.p n.own.l r.b=0 then n.own.l else []) true) },[],[]⟩)
 else if ¬5<2*r.prom.length then ⟨n,Rj n r,[]⟩
 else ⟨{ n with Zi:=some (LW n r) },LV n (LW n r),[]⟩
def still (n:Nd):Nd:=match n.Zi with|some r=>if below r.b n.own.p then { n with Zi:=none } else n|none=>n
def Vo (n:Nd):List YY:=n.queue.map fun x=>⟨4,n.me,n.own.p.n,Jy,Tf 0 Jy x,[]⟩
def Yl (n:Nd):Out:=match n.Zi with
 | some r=>JU n r
 | none=>if 0<n.own.p.r∧n.own.p.n≠n.me then ⟨n,Vo n,[]⟩ else ⟨n,[],[]⟩
def Uj (n:Nd):XL:=if below n.own.p n.heard then n.heard else n.own.p
def JR (n:Nd):Nd:={ n with Xh:=(n.Xh+1)%5 }
def VP (n:Nd):List YY:=if n.Xh≠n.me∧n.log.length<40 then [⟨5,n.me,n.Xh,Uj n,Tf n.log.length Jy oF,[]⟩] else []
def Uf (n:Nd):Out:=
 if (Yl (still n)).n.ZQ.isSome=true then Yl (still n)
 else ⟨JR (Yl (still n)).n,(Yl (still n)).ls++VP (JR (Yl (still n)).n),[]⟩
def synced (n:Nd):Nd:={ n with data:=if Y1 n.data n.Xq then n.data else [],Xq:=if Y1 n.data n.Xq then (n.data.length:Int) else 0,ZQ:=none }
def finish (n:Nd):DS→Out
 | .Ig a to b vs=>⟨{ n with own:=a },[⟨1,n.me,to,b,Tm,vs⟩],[]⟩
 | .Kx a to v=>⟨{ n with own:=a },[⟨3,n.me,to,Jy,v,[]⟩],[]⟩
 | .own a vs cur=>⟨{ n with own:=a,Zi:=if cur=true then n.Zi.map (fun r=>{ r with prom:=ins r.prom n.me vs }) else n.Zi },[],[]⟩
def drain:Nd→List YY→Out
 | n,[]=>⟨{ n with inbox:=[] },[],[]⟩
 | n,l :: k=>if n.ZQ.isSome=true then ⟨{ n with inbox:=l :: k },[],[]⟩
  else ⟨(drain (handle { n with inbox:=k } l).n k).n,(handle { n with inbox:=k } l).ls++(drain (handle { n with inbox:=k } l).n k).ls,(handle { n with inbox:=k } l).ts++(drain (handle { n with inbox:=k } l).n k).ts⟩
def step (n:Nd):Out:=
 if n.up=true then (match n.ZQ with
  | some p=>finish (synced n) p
  | none=>if (drain n n.inbox).n.ZQ.isSome=true then drain n n.inbox
   else ⟨(Uf (drain n n.inbox).n).n,(drain n n.inbox).ls++(Uf (drain n n.inbox).n).ls,(drain n n.inbox).ts++(Uf (drain n n.inbox).n).ts⟩)
 else ⟨n,[],[]⟩
def blank (i:Nat) (up:Bool) (data:List Nat) (Xq:Int) (own:WT):Nd:=⟨i,up,data,Xq,own,Jy,none,[],[],Jp,[],[],[],none,0⟩
def J4 (n:Nd):XL:=⟨match n.Zi with
 | some r=>max (max n.own.p.r n.heard.r+1) (r.b.r+1)
 | none=>max n.own.p.r n.heard.r+1,n.me⟩
def Xb:Option DS→Option DS
 | some (.own a vs _)=>some (.own a vs false)
 | p=>p
def lead (n:Nd):Nd:=if n.up=false∨65536<(J4 n).r then n else { n with Zi:=some ⟨J4 n,[],false,[],[]⟩,ZQ:=Xb n.ZQ }
def Tb (rc:List Nat) (now:Int):Cm:=if Xc rc now=0 then ⟨Xj ((JF rc).drop 22) 0,Xj ((JF rc).drop 22) 1,Xj ((JF rc).drop 22) 2,Xj ((JF rc).drop 22) 3,Xj ((JF rc).drop 22) 4⟩ else oF
def LX (l:List Nat):Nat→WT→Nat→WT × Nat
 | 0,a,k=>(a,k)
 | f+1,a,k=>match Xy l a k with
  | none=>(a,k)
  | some x=>LX l f x.1 x.2
def TU (l:List Nat):WT × Nat:=LX l (l.length+1) Qp 0
def aV (l:List Nat) (n k:Int):Int:=n+(if (l.length:Int)-n<k then (l.length:Int)-n else k)
def crashed (i:Nat) (n:Nd) (Zd:Int):Nd:=
 if n.up=true then (if Y1 n.data n.Xq∧0≤Zd then blank i false (n.data.take (aV n.data n.Xq Zd).toNat) (aV n.data n.Xq Zd) Qp else blank i false [] 0 Qp) else n
def Aa (l:List Nat) (n:Int):List Nat:=if Y1 l n then l.take (TU l).2 else []
def rP (l:List Nat) (n:Int):Int:=if Y1 l n then (if ((TU l).2:Int)<n then ((TU l).2:Int) else n) else 0
def started (i:Nat) (n:Nd):Nd:=
 if n.up=true then n else blank i true (Aa n.data n.Xq) (rP n.data n.Xq) (if Y1 (Aa n.data n.Xq) (rP n.data n.Xq) then (TU (Aa n.data n.Xq)).1 else Qp)
structure Ac where
 kind:Int
 node:Nat
 at':Nat
 Zd:Int
 data:List Nat
def Wd.set (w:Wd) (i:Nat) (n:Nd):Wd:={ w with nodes:=fun j=>if j=i then n else w.nodes j }
def Wd.out (w:Wd) (i:Nat) (o:Out):Wd:={ nodes:=fun j=>if j=i then o.n else w.nodes j,Zl:=w.Zl++o.ls,bad:=w.bad,told:=w.told++o.ts }
def QV (w:Wd) (l:YY):Wd:=if (w.nodes l.to.toNat).up=true then w.set l.to.toNat { w.nodes l.to.toNat with inbox:=(w.nodes l.to.toNat).inbox++[l] } else w
def pick (w:Wd) (at':Nat) (comes stays:Bool):Wd:=
 match w.Zl[at'%w.Zl.length]? with
 | none=>w
 | some l=>if comes=true then QV (if stays=true then w else { w with Zl:=w.Zl.eraseIdx (at'%w.Zl.length) }) l else (if stays=true then w else { w with Zl:=w.Zl.eraseIdx (at'%w.Zl.length) })
def PG (n:Nd) (x:Cm):Nd:=if x∈n.waiting then n else { n with waiting:=n.waiting++[x] }
def VQ (w:Wd) (i:Nat) (data:List Nat):Wd:=
 if (w.nodes i).up=true then
  (if Xc data (w.nodes i).log.length≠0 then { w with bad:=fun j=>if j=i then w.bad i+1 else w.bad j }
  else if Tb data (w.nodes i).log.length∈(w.nodes i).log then
   { w with told:=w.told++[⟨(w.nodes i).me,(Tb data (w.nodes i).log.length).c,(Tb data (w.nodes i).log.length).s,Ri (w.nodes i).store (Tb data (w.nodes i).log.length),LU (w.nodes i).store (Tb data (w.nodes i).log.length)⟩] }
  else w.set i (PG (add (w.nodes i) (Tb data (w.nodes i).log.length)) (Tb data (w.nodes i).log.length)))
 else w
def act (w:Wd) (a:Ac):Wd:=
 if a.kind=1 then VQ w a.node a.data
 else if a.kind=2 then w.set a.node (lead (w.nodes a.node))
 else if a.kind=3 then w.out a.node (step (w.nodes a.node))
 else if a.kind=4∨a.kind=5∨a.kind=6 then pick w a.at' (decide (a.kind≠5)) (decide (a.kind=6))
 else if a.kind=7 then w.Zl.foldl QV { w with Zl:=[] }
 else if a.kind=8 then w.set a.node (crashed a.node (w.nodes a.node) a.Zd)
 else w.set a.node (started a.node (w.nodes a.node))
def QJ:Wd:=⟨fun i=>blank i true [] 0 Qp,[],fun _=>0,[]⟩
def WK (l:List Ac):Wd:=l.foldl act QJ
set_option maxRecDepth 100000
@[go_sem] theorem Vp:aj Tryz.prog 107=some 49:=by kernel_rfl
@[go_sem] theorem Nw:aj Tryz.prog 166=some 103:=by kernel_rfl
@[go_sem] theorem LY:aj Tryz.prog 167=some 204:=by kernel_rfl
@[go_sem] theorem I1:aj Tryz.prog 204=some 205:=by kernel_rfl
@[go_sem] theorem mA:aj Tryz.prog 187=some 186:=by kernel_rfl
@[go_sem] theorem PH:ur Tryz.prog 49=some (.agg oF.C.toArray):=by kernel_rfl
@[go_sem] theorem mB:ur Tryz.prog 103=some (.slice none 0 0):=by kernel_rfl
@[go_sem] theorem I3:ur Tryz.prog 204=some (.map none):=by kernel_rfl
@[go_sem] theorem vd:ur Tryz.prog 205=some (.agg #[]):=by kernel_rfl
@[go_sem] theorem Zd4:ur Tryz.prog 186=some .nilFunc:=by kernel_rfl
@[go_sem] theorem ZxK:tkp Tryz.prog 106=true:=by kernel_rfl
@[go_sem] theorem ZxL:tkm Tryz.prog 204=true:=by kernel_rfl
@[go_sem] theorem ZxM:qg Tryz.prog 1=true:=by kernel_rfl
inductive Tg where
 | world
 | nodes
 | Zl
 | told
 | node (i:Nat)
 | known (i:Nat)
 | log (i:Nat)
 | queue (i:Nat)
 | waiting (i:Nat)
 | inbox (i:Nat)
 | Zi (i:Nat)
 | prom (i:Nat)
 | prop (i:Nat)
 | Jk (i:Nat)
 | VR (i:Nat) (s:Int)
 | Xb (i:Nat)
def Tg.of:Tg→Option Nat
 | .world=>none
 | .nodes=>none
 | .Zl=>none
 | .told=>none
 | .node i=>some i
 | .known i=>some i
 | .log i=>some i
 | .queue i=>some i
 | .waiting i=>some i
 | .inbox i=>some i
 | .Zi i=>some i
 | .prom i=>some i
 | .prop i=>some i
 | .Jk i=>some i
 | .VR i _=>some i
 | .Xb i=>some i
abbrev Ow:=Nat→Option Tg
structure Im (o:Ow) (n:Nat) (h:Hp) (v:Value) (m:Nat) (cs:List Value):Prop where
 sl:Sl n h v m cs
 fits:∃p c,v=.slice p m c∧m≤c
 free:∀b,ZL v=some b→b<h.size∧o b=none
theorem Im.Zd {S:Tg→Prop} {o o':Ow} {n m:Nat} {h h':Hp} {v:Value} {cs:List Value} (s:Im o n h v m cs) (k:Kp S o h o' h'):Im o' n h' v m cs:=by
 obtain⟨⟨p,c,rfl,hl,oq⟩,⟨p',c',he,hm⟩,hf⟩:=s
 simp only[Value.slice.injEq,true_and]at he
 obtain⟨rfl,rfl⟩:=he
 have wo:∀b,ZL (.slice p m c)=some b→b<h.size∧o b=none∧h'[b]? = h[b]? ∧ o' b=none:=fun b hb=>by
  obtain⟨h1,h2⟩:=hf b hb
  obtain⟨h3,h4⟩:=k.Zd b h1 fun t ht=>by rw[h2]at ht;cases ht
  exact⟨h1,h2,h3,by rw[h4,h2]⟩
 refine⟨⟨p,c,rfl,hl,fun Yq=>?_⟩,⟨p,c,rfl,hm⟩,fun b hb=>⟨Nat.lt_of_lt_of_le (wo b hb).1 k.size,(wo b hb).2.2.2⟩⟩
 obtain⟨b,off,rfl,YL⟩:=oq Yq
 have ab:c≠0:=by
  intro e
  have:m=0:=by omega
  subst this
  exact Yq (List.eq_nil_of_length_eq_zero (by simpa using hl))
 have hb:ZL (.slice (some ⟨b,off,none⟩) m c)=some b:=by simp[ZL,ab]
 refine⟨b,off,rfl,fun i hi=>?_⟩
 have:=YL i hi
 unfold hc at this ⊢
 rw[(wo b hb).2.2.1]
 exact this
theorem Im.QK {o:Ow} {B n m:Nat} {E:TypeId} {h:Hp} {v:Value} {cs:List Value} (s:J9 B E n h v m cs) (hd:∀b,B≤b→o b=none):Im o n h v m cs:=by
 refine⟨s.sl,?_,fun b hb=>?_⟩
 ·rcases s with⟨⟨p,rfl⟩,rfl,_⟩|⟨b,cap,sp,_,rfl,_,_,_,hm⟩
  ·exact⟨p,0,rfl,Nat.le_refl _⟩
  ·exact⟨_,cap,rfl,hm⟩
 ·exact⟨s.lt b hb,hd b (s.ZD b hb)⟩
theorem Im.nil (o:Ow) (n:Nat) (h:Hp) (p:Option Addr):Im o n h (.slice p 0 0) 0 []:=
 ⟨⟨p,0,rfl,by simp,fun Yq=>absurd rfl Yq⟩,⟨p,0,rfl,Nat.le_refl _⟩,fun b hb=>by cases p<;>simp[ZL]at hb⟩
def UZ (o:Ow) (h:Hp) (v:Value) (l:List Vt):Prop:=Im o 8 h v l.length (Zu Zm l)
def VT (o:Ow) (h:Hp) (v:Value) (l:List Nat):Prop:=Im o 1 h v l.length (l.map bv)∧∀x∈l,x<256
theorem UZ.ts {o:Ow} {h:Hp} {v:Value} {l:List Vt} (s:UZ o h v l):Ts Zm 8 h v l:=⟨Im.sl s⟩
theorem VT.bs {o:Ow} {h:Hp} {v:Value} {l:List Nat} (s:VT o h v l):Bs h v l:=⟨s.1.sl,s.2⟩
theorem UZ.Zd {S:Tg→Prop} {o o':Ow} {h h':Hp} {v:Value} {l:List Vt} (s:UZ o h v l) (k:Kp S o h o' h'):UZ o' h' v l:=Im.Zd s k
theorem VT.Zd {S:Tg→Prop} {o o':Ow} {h h':Hp} {v:Value} {l:List Nat} (s:VT o h v l) (k:Kp S o h o' h'):VT o' h' v l:=⟨s.1.Zd k,s.2⟩
def YP (l:YY) (w:Value):List Value:=[.int .i64 l.kind,.int .i64 l.Jj,.int .i64 l.to,.int .i64 l.b.r,.int .i64 l.b.n,.int .i64 l.v.slot,.int .i64 l.v.b.r,.int .i64 l.v.b.n,.int .i64 l.v.k,.int .i64 l.v.c,.int .i64 l.v.s,.int .i64 l.v.nm,.int .i64 l.v.v,w]
def Nx (x:YY × Value):List Value:=YP x.1 x.2
def LZ (t:TS):List Value:=[.int .i64 t.node,.int .i64 t.c,.int .i64 t.s,.int .i64 t.code,.int .i64 t.val]
def Zn (b:Nat):Value:=.pointer (some ⟨b,0,none⟩)
def Wr (x:Cm):Value:=.agg x.C.toArray
def Qq (o:Ow) (t:Tg) (h:Hp) (v:Value) (l:List Cm):Prop:=Ys o t 49 5 h v l.length (Zu Qc.C l)
def Qz (o:Ow) (t:Tg) (h:Hp) (v:Value) (l:List YY):Prop:=
 ∃xs:List (YY × Value),xs.map (·.1)=l∧Ys o t 148 14 h v xs.length (Zu Nx xs)∧∀x∈xs,UZ o h x.2 x.1.vs
theorem Qq.Zd {S:Tg→Prop} {o o':Ow} {t:Tg} {h h':Hp} {v:Value} {l:List Cm} (s:Qq o t h v l) (k:Kp S o h o' h') (hn:¬S t):Qq o' t h' v l:=Ys.Zd s k hn
theorem Qz.Zd {S:Tg→Prop} {o o':Ow} {t:Tg} {h h':Hp} {v:Value} {l:List YY} (s:Qz o t h v l) (k:Kp S o h o' h') (hn:¬S t):Qz o' t h' v l:=by
 obtain⟨xs,h1,h2,h3⟩:=s
 exact⟨xs,h1,h2.Zd k hn,fun x hx=>(h3 x hx).Zd k⟩
def J6 (o:Ow) (t:Tg) (h:Hp) (b:Nat) (l:List (Int × Value)):Prop:=o b=some t∧h[b]? = some (Xg l)
theorem J6.Zd {S:Tg→Prop} {o o':Ow} {t:Tg} {h h':Hp} {b:Nat} {l:List (Int × Value)} (s:J6 o t h b l) (k:Kp S o h o' h') (hn:¬S t):J6 o' t h' b l:=by
 have SD:∀u,o b=some u→¬S u:=fun u hu=>by rw[s.1]at hu;cases hu;exact hn
 exact⟨by rw[k.own s.2 SD,s.1],k.get s.2 SD⟩
def QA (o:Ow) (t:Tg) (h:Hp) (b:Nat) (x:Obj):Prop:=o b=some t∧h[b]? = some x
theorem QA.Zd {S:Tg→Prop} {o o':Ow} {t:Tg} {h h':Hp} {b:Nat} {x:Obj} (s:QA o t h b x) (k:Kp S o h o' h') (hn:¬S t):QA o' t h' b x:=by
 have SD:∀u,o b=some u→¬S u:=fun u hu=>by rw[s.1]at hu;cases hu;exact hn
 exact⟨by rw[k.own s.2 SD,s.1],k.get s.2 SD⟩
def ZK (o:Ow) (h:Hp) (b:Nat) (x:Obj):Prop:=o b=none∧h[b]? = some x
theorem ZK.Zd {S:Tg→Prop} {o o':Ow} {h h':Hp} {b:Nat} {x:Obj} (s:ZK o h b x) (k:Kp S o h o' h'):ZK o' h' b x:=(k.free s.2 s.1).symm
def QL (o:Ow) (h:Hp) (pv:List (Int × Value)) (pr:List (Int × List Vt)):Prop:=DN (fun x y=>x.1=y.1∧UZ o h x.2 y.2) pv pr
theorem QL.Zd {S:Tg→Prop} {o o':Ow} {h h':Hp} {pv:List (Int × Value)} {pr:List (Int × List Vt)} (s:QL o h pv pr) (k:Kp S o h o' h'):QL o' h' pv pr:=by
 induction s with
 | nil=>exact .nil
 | cons a _ ih=>exact .cons ⟨a.1,a.2.Zd k⟩ ih
def NW (l:List (Int × Unit)):List (Int × Value):=Ua (fun _=>.agg #[]) l
def QB (o:Ow) (i:Nat) (h:Hp) (sv:List (Int × Nat)) (vt:List (Int × List (Int × Unit))):Prop:=DN (fun x y=>x.1=y.1∧J6 o (.VR i y.1) h x.2 (NW y.2)) sv vt
theorem QB.Zd {S:Tg→Prop} {o o':Ow} {i:Nat} {h h':Hp} {sv:List (Int × Nat)} {vt:List (Int × List (Int × Unit))} (s:QB o i h sv vt) (k:Kp S o h o' h') (hn:∀s,¬S (.VR i s)):QB o' i h' sv vt:=by
 induction s with
 | nil=>exact .nil
 | cons a _ ih=>exact .cons ⟨a.1,a.2.Zd k (hn _)⟩ ih
def oH (b:Nat):Value:=.map (some b)
structure RA where
 rb:Nat
 pb:Nat
 qb:Nat
 vb:Nat
 pv:List (Int × Value)
 sv:List (Int × Nat)
def Ab (r:Qd) (a:RA):List Value:=[.int .i64 r.b.r,.int .i64 r.b.n,.map (some a.pb),.bool r.begun,.map (some a.qb),.map (some a.vb)]
structure YA (o:Ow) (i:Nat) (h:Hp) (a:RA) (r:Qd):Prop where
 ZD:QA o (.Zi i) h a.rb (.cells (Ab r a).toArray 169)
 prom:J6 o (.prom i) h a.pb a.pv
 TV:QL o h a.pv r.prom
 prop:J6 o (.prop i) h a.qb (Ua Wr r.prop)
 Jk:J6 o (.Jk i) h a.vb (Ua oH a.sv)
 VU:QB o i h a.sv r.Jk
 keys:(a.sv.map (·.1)).Nodup
def Xz (i:Nat) (t:Tg):Prop:=t=.Zi i∨t=.prom i∨t=.prop i∨t=.Jk i∨∃s,t=.VR i s
theorem YA.Zd {S:Tg→Prop} {o o':Ow} {i:Nat} {h h':Hp} {a:RA} {r:Qd} (s:YA o i h a r) (k:Kp S o h o' h') (hn:∀t,Xz i t→¬S t):YA o' i h' a r:=
 ⟨s.ZD.Zd k (hn _ (.inl rfl)),s.prom.Zd k (hn _ (.inr (.inl rfl))),s.TV.Zd k,s.prop.Zd k (hn _ (.inr (.inr (.inl rfl)))),s.Jk.Zd k (hn _ (.inr (.inr (.inr (.inl rfl))))),s.VU.Zd k (fun s=>hn _ (.inr (.inr (.inr (.inr ⟨s,rfl⟩))))),s.keys⟩
def Rk:Option RA→Value
 | some a=>Zn a.rb
 | none=>.pointer none
def rQ (o:Ow) (i:Nat) (h:Hp):Option RA→Option Qd→Prop
 | some a,some r=>YA o i h a r
 | none,none=>True
 | _,_=>False
theorem rQ.Zd {S:Tg→Prop} {o o':Ow} {i:Nat} {h h':Hp} {a:Option RA} {r:Option Qd} (s:rQ o i h a r) (k:Kp S o h o' h') (hn:∀t,Xz i t→¬S t):rQ o' i h' a r:=by
 cases a<;>cases r<;>first|exact s|exact YA.Zd s k hn
def U6 (f:FuncId) (l:List Nat):Value:=.func (.func f) #[] (l.map Zn).toArray
def mC (o:Ow) (h:Hp) (wb nb:Nat) (v:Value) (to:Int) (b:XL) (vs:List Vt):Prop:=
 ∃b3 b4 b5 b7 l w5 w,v=U6 110 [b3,b4,b5,b7]∧ZK o h b3 (.cells [Zn wb].toArray 91)∧ZK o h b4 (.cells [Zn nb].toArray 98) ∧
  ZK o h b5 (.cells (YP l w5).toArray 148)∧l.Jj=to∧l.b=b∧ZK o h b7 (.cells [w].toArray 103)∧UZ o h w vs
def mD (o:Ow) (h:Hp) (wb nb:Nat) (v:Value) (to:Int) (x:Vt):Prop:=
 ∃b3 b4 b5 l w5,v=U6 115 [b3,b4,b5]∧ZK o h b3 (.cells [Zn wb].toArray 91)∧ZK o h b4 (.cells [Zn nb].toArray 98) ∧
  ZK o h b5 (.cells (YP l w5).toArray 148)∧l.Jj=to∧l.v=x
theorem mC.Zd {S:Tg→Prop} {o o':Ow} {h h':Hp} {wb nb:Nat} {v:Value} {to:Int} {b:XL} {vs:List Vt} (s:mC o h wb nb v to b vs) (k:Kp S o h o' h'):mC o' h' wb nb v to b vs:=by
 obtain⟨b3,b4,b5,b7,l,w5,w,h1,h2,h3,h4,h5,h6,h7,h8⟩:=s
 exact⟨b3,b4,b5,b7,l,w5,w,h1,h2.Zd k,h3.Zd k,h4.Zd k,h5,h6,h7.Zd k,h8.Zd k⟩
theorem mD.Zd {S:Tg→Prop} {o o':Ow} {h h':Hp} {wb nb:Nat} {v:Value} {to:Int} {x:Vt} (s:mD o h wb nb v to x) (k:Kp S o h o' h'):mD o' h' wb nb v to x:=by
 obtain⟨b3,b4,b5,l,w5,h1,h2,h3,h4,h5,h6⟩:=s
 exact⟨b3,b4,b5,l,w5,h1,h2.Zd k,h3.Zd k,h4.Zd k,h5,h6⟩
def TW (o:Ow) (h:Hp) (b:Nat) (a:WT):Prop:=∃w,ZK o h b (.cells (YB a.p w).toArray 105)∧UZ o h w a.l
theorem TW.Zd {S:Tg→Prop} {o o':Ow} {h h':Hp} {b:Nat} {a:WT} (s:TW o h b a) (k:Kp S o h o' h'):TW o' h' b a:=by
 obtain⟨w,h1,h2⟩:=s
 exact⟨w,h1.Zd k,h2.Zd k⟩
def Zd5 (o:Ow) (h:Hp) (i nb:Nat) (ra:Option RA) (v:Value) (a:WT) (vs:List Vt) (cur:Bool):Prop:=
 ∃b6 b4 b7 b5 w rb,v=U6 119 [b6,b4,b7,b5]∧TW o h b6 a∧ZK o h b4 (.cells [Zn nb].toArray 98)∧ZK o h b7 (.cells [w].toArray 103)∧UZ o h w vs ∧
  ZK o h b5 (.cells [Zn rb].toArray 106) ∧
  (if cur=true then ∃a,ra=some a∧a.rb=rb else ∃cs pb pv,QA o (.Xb i) h rb (.cells cs 169)∧cs[2]? = some (.map (some pb))∧J6 o (.Xb i) h pb pv)
def Q2 (o:Ow) (h:Hp) (wb i nb:Nat) (ra:Option RA):Value→Option DS→Prop
 | v,none=>v=.nilFunc
 | v,some (.Ig a to b vs)=>∃b6 b4 b9 u,v=U6 112 [b6,b4,b9]∧TW o h b6 a∧ZK o h b4 (.cells [Zn nb].toArray 98)∧ZK o h b9 (.cells [u].toArray 1)∧mC o h wb nb u to b vs
 | v,some (.Kx a to x)=>∃b6 b4 b9 u,v=U6 118 [b6,b4,b9]∧TW o h b6 a∧ZK o h b4 (.cells [Zn nb].toArray 98)∧ZK o h b9 (.cells [u].toArray 1)∧mD o h wb nb u to x
 | v,some (.own a vs cur)=>Zd5 o h i nb ra v a vs cur
theorem Q2.Zd {S:Tg→Prop} {o o':Ow} {h h':Hp} {wb i nb:Nat} {ra:Option RA} {v:Value} {p:Option DS} (s:Q2 o h wb i nb ra v p) (k:Kp S o h o' h') (hn:¬S (.Xb i)):Q2 o' h' wb i nb ra v p:=by
 match p,s with
 | none,s=>exact s
 | some (.Ig a to b vs),⟨b6,b4,b9,u,h1,h2,h3,h4,h5⟩=>exact⟨b6,b4,b9,u,h1,h2.Zd k,h3.Zd k,h4.Zd k,h5.Zd k⟩
 | some (.Kx a to x),⟨b6,b4,b9,u,h1,h2,h3,h4,h5⟩=>exact⟨b6,b4,b9,u,h1,h2.Zd k,h3.Zd k,h4.Zd k,h5.Zd k⟩
 | some (.own a vs cur),⟨b6,b4,b7,b5,w,rb,h1,h2,h3,h4,h5,h6,h7⟩=>
  refine⟨b6,b4,b7,b5,w,rb,h1,h2.Zd k,h3.Zd k,h4.Zd k,h5.Zd k,h6.Zd k,?_⟩
  cases cur with
  | true=>exact h7
  | false=>
   obtain⟨cs,pb,pv,g1,g2,g3⟩:=h7
   exact⟨cs,pb,pv,g1.Zd k hn,g2,g3.Zd k hn⟩
structure NA where
 data:Value
 YD:Value
 Zi:Option RA
 known:Nat
 log:Value
 queue:Value
 waiting:Value
 inbox:Value
 ZQ:Value
def Uk (n:Nd) (a:NA):List Value:=[.int .i64 n.me,.bool n.up,a.data,.int .i64 n.Xq,.int .i64 n.own.p.r,.int .i64 n.own.p.n,a.YD,.int .i64 n.heard.r,.int .i64 n.heard.n,Rk a.Zi,.map (some a.known),a.log]++(n.store++[a.queue,a.waiting,a.inbox,a.ZQ,.int .i64 n.Xh])
def Y4 (n:Nd) (a:NA):Obj:=.cells (Uk n a).toArray 109
structure PI (cs:List Value):Prop where
 fit:Yo XT cs=true
 num:∀i,i<32→nth cs i=some (.int .i64 (ci cs i))
 yes:∀i,32≤i→i<40→nth cs i=some (.bool (cb cs i))
structure ZT (o:Ow) (h:Hp) (wb i nb:Nat) (a:NA) (n:Nd):Prop where
 data:VT o h a.data n.data
 YD:UZ o h a.YD n.own.l
 Zi:rQ o i h a.Zi n.Zi
 known:J6 o (.known i) h a.known (Ua Wr n.known)
 log:Qq o (.log i) h a.log n.log
 queue:Qq o (.queue i) h a.queue n.queue
 waiting:Qq o (.waiting i) h a.waiting n.waiting
 inbox:Qz o (.inbox i) h a.inbox n.inbox
 ZQ:Q2 o h wb i nb a.Zi a.ZQ n.ZQ
 store:PI n.store
structure ZH (o:Ow) (h:Hp) (wb i nb:Nat) (a:NA) (n:Nd):Prop where
 ZD:QA o (.node i) h nb (Y4 n a)
 pt:ZT o h wb i nb a n
theorem OD {i:Nat} {t:Tg} (h:Xz i t):t.of=some i:=by
 rcases h with rfl|rfl|rfl|rfl|⟨s,rfl⟩<;>rfl
section
variable {S:Tg→Prop} {o o':Ow} {h h':Hp} {wb i nb:Nat} {a:NA} {n:Nd}
theorem ZT.Zd (s:ZT o h wb i nb a n) (k:Kp S o h o' h') (hn:∀t,S t→t.of≠some i∨t=.node i):ZT o' h' wb i nb a n:=by
 have q:∀t:Tg,t.of=some i→t ≠ .node i→¬S t:=fun t ht Yq hs=>(hn t hs).elim (fun q=>q ht) Yq
 exact⟨s.data.Zd k,s.YD.Zd k,s.Zi.Zd k (fun t ht=>q t (OD ht) (by rcases ht with rfl|rfl|rfl|rfl|⟨z,rfl⟩<;>intro e<;>cases e)),s.known.Zd k (q _ rfl (by intro e;cases e)),s.log.Zd k (q _ rfl (by intro e;cases e)),s.queue.Zd k (q _ rfl (by intro e;cases e)),s.waiting.Zd k (q _ rfl (by intro e;cases e)),s.inbox.Zd k (q _ rfl (by intro e;cases e)),s.ZQ.Zd k (q _ rfl (by intro e;cases e)),s.store⟩
theorem ZH.Zd (s:ZH o h wb i nb a n) (k:Kp S o h o' h') (hn:∀t,S t→t.of≠some i):ZH o' h' wb i nb a n:=
 ⟨s.ZD.Zd k fun q=>hn _ q rfl,s.pt.Zd k fun t ht=>.inl (hn t ht)⟩
theorem ZT.put (s:ZT o h wb i nb a n) (d:Q3 o h) {x:Obj} (b:QA o (.node i) h nb x):ZH o (h.setIfInBounds nb (Y4 n a)) wb i nb a n:=
 ⟨⟨b.1,Zt b.2⟩,s.Zd ((Kp.refl d (fun t=>t=.node i)).set b.1 rfl _) fun t ht=>.inr ht⟩
theorem ZT.write (s:ZT o h wb i nb a n) (d:Q3 o h) {x:Obj} (b:QA o (.node i) h nb x) {e:Option Hp} (w:e=some (h.setIfInBounds nb (Y4 n a))):∃g,e=some g∧ZH o g wb i nb a n∧Kp (fun t=>t=.node i) o h o g:=
 ⟨_,w,s.put d b,(Kp.refl d (fun t=>t=.node i)).set b.1 rfl _⟩
theorem ZT.I5 (s:ZT o h wb i nb a n) (k:Kp (fun t=>t=.queue i) o h o' h') {v:Value} {l:List Cm} (hv:Qq o' (.queue i) h' v l):ZT o' h' wb i nb { a with queue:=v } { n with queue:=l }:=
 ⟨s.data.Zd k,s.YD.Zd k,s.Zi.Zd k (fun t ht=>by rcases ht with rfl|rfl|rfl|rfl|⟨z,rfl⟩<;>intro e<;>cases e),s.known.Zd k (by intro e;cases e),s.log.Zd k (by intro e;cases e),hv,s.waiting.Zd k (by intro e;cases e),s.inbox.Zd k (by intro e;cases e),s.ZQ.Zd k (by intro e;cases e),s.store⟩
theorem ZT.rR (s:ZT o h wb i nb a n) (k:Kp (fun t=>t=.log i) o h o' h') {v:Value} {l:List Cm} (hv:Qq o' (.log i) h' v l):ZT o' h' wb i nb { a with log:=v } { n with log:=l }:=
 ⟨s.data.Zd k,s.YD.Zd k,s.Zi.Zd k (fun t ht=>by rcases ht with rfl|rfl|rfl|rfl|⟨z,rfl⟩<;>intro e<;>cases e),s.known.Zd k (by intro e;cases e),hv,s.queue.Zd k (by intro e;cases e),s.waiting.Zd k (by intro e;cases e),s.inbox.Zd k (by intro e;cases e),s.ZQ.Zd k (by intro e;cases e),s.store⟩
theorem ZT.Ny (s:ZT o h wb i nb a n) (k:Kp (fun t=>t=.waiting i) o h o' h') {v:Value} {l:List Cm} (hv:Qq o' (.waiting i) h' v l):ZT o' h' wb i nb { a with waiting:=v } { n with waiting:=l }:=
 ⟨s.data.Zd k,s.YD.Zd k,s.Zi.Zd k (fun t ht=>by rcases ht with rfl|rfl|rfl|rfl|⟨z,rfl⟩<;>intro e<;>cases e),s.known.Zd k (by intro e;cases e),s.log.Zd k (by intro e;cases e),s.queue.Zd k (by intro e;cases e),hv,s.inbox.Zd k (by intro e;cases e),s.ZQ.Zd k (by intro e;cases e),s.store⟩
theorem ZT.fB (s:ZT o h wb i nb a n) (k:Kp (fun t=>t=.inbox i) o h o' h') {v:Value} {l:List YY} (hv:Qz o' (.inbox i) h' v l):ZT o' h' wb i nb { a with inbox:=v } { n with inbox:=l }:=
 ⟨s.data.Zd k,s.YD.Zd k,s.Zi.Zd k (fun t ht=>by rcases ht with rfl|rfl|rfl|rfl|⟨z,rfl⟩<;>intro e<;>cases e),s.known.Zd k (by intro e;cases e),s.log.Zd k (by intro e;cases e),s.queue.Zd k (by intro e;cases e),s.waiting.Zd k (by intro e;cases e),hv,s.ZQ.Zd k (by intro e;cases e),s.store⟩
theorem ZT.fD (s:ZT o h wb i nb a n) (k:Kp (fun t=>t=.known i) o h o' h') {v:Nat} {l:List (Int × Cm)} (hv:J6 o' (.known i) h' v (Ua Wr l)):ZT o' h' wb i nb { a with known:=v } { n with known:=l }:=
 ⟨s.data.Zd k,s.YD.Zd k,s.Zi.Zd k (fun t ht=>by rcases ht with rfl|rfl|rfl|rfl|⟨z,rfl⟩<;>intro e<;>cases e),hv,s.log.Zd k (by intro e;cases e),s.queue.Zd k (by intro e;cases e),s.waiting.Zd k (by intro e;cases e),s.inbox.Zd k (by intro e;cases e),s.ZQ.Zd k (by intro e;cases e),s.store⟩
theorem ZT.J7 (s:ZT o h wb i nb a n) (k:Kp (Xz i) o h o' h') {ra ra':RA} {r':Qd} (hr:a.Zi=some ra) (Ad:ra'.rb=ra.rb) (hv:YA o' i h' ra' r'):ZT o' h' wb i nb { a with Zi:=some ra' } { n with Zi:=some r' }:=by
 have q:∀t,t.of=some i→(¬ ∃u,t=u∧Xz i u)→¬Xz i t:=fun t _ h2 h3=>h2 ⟨t,rfl,h3⟩
 have e:∀t:Tg,(t=.known i∨t=.log i∨t=.queue i∨t=.waiting i∨t=.inbox i∨t=.Xb i)→¬Xz i t:=by
  intro t ht hr
  rcases ht with rfl|rfl|rfl|rfl|rfl|rfl<;>rcases hr with e|e|e|e|⟨s,e⟩<;>cases e
 refine⟨s.data.Zd k,s.YD.Zd k,hv,s.known.Zd k (e _ (by simp)),s.log.Zd k (e _ (by simp)),s.queue.Zd k (e _ (by simp)),s.waiting.Zd k (e _ (by simp)),s.inbox.Zd k (e _ (by simp)),?_,s.store⟩
 have hp:=s.ZQ.Zd k (e _ (by simp))
 show Q2 o' h' wb i nb (some ra') a.ZQ n.ZQ
 rw[hr]at hp
 match hn:n.ZQ,hp with
 | none,hp=>exact hp
 | some (.Ig _ _ _ _),hp=>exact hp
 | some (.Kx _ _ _),hp=>exact hp
 | some (.own _ _ cur),⟨b6,b4,b7,b5,w,rb,h1,h2,h3,h4,h5,h6,h7⟩=>
  refine⟨b6,b4,b7,b5,w,rb,h1,h2,h3,h4,h5,h6,?_⟩
  cases cur with
  | false=>exact h7
  | true=>
   obtain⟨c,hc,hcr⟩:=h7
   obtain rfl:=Option.some.inj hc
   exact⟨ra',rfl,Ad.trans hcr⟩
end
structure WA where
 nodes:Value
 Zl:Value
 told:Value
def Y2 (bad:Nat→Int) (a:WA):List Value:=[a.nodes,a.Zl,.int .i64 0,.bool false,.bool false,.bool false,.bool false,.bool false,.slice none 0 0,.int .i64 (bad 0),.int .i64 (bad 1),.int .i64 (bad 2),.int .i64 (bad 3),.int .i64 (bad 4),a.told]
structure ZE (o:Ow) (h:Hp) (wb:Nat) (nb:Nat→Nat) (a:WA) (fl:List YY) (bad:Nat→Int) (told:List TS):Prop where
 ZD:QA o .world h wb (.cells (Y2 bad a).toArray 97)
 nodes:Ys o .nodes 98 1 h a.nodes 5 [Zn (nb 0),Zn (nb 1),Zn (nb 2),Zn (nb 3),Zn (nb 4)]
 Zl:Qz o .Zl h a.Zl fl
 told:Ys o .told 42 5 h a.told told.length (Zu LZ told)
theorem ZE.Zd {S:Tg→Prop} {o o':Ow} {h h':Hp} {wb:Nat} {nb:Nat→Nat} {a:WA} {fl:List YY} {bad:Nat→Int} {told:List TS} (s:ZE o h wb nb a fl bad told) (k:Kp S o h o' h') (hn:∀t,S t→t.of≠none):ZE o' h' wb nb a fl bad told:=
 ⟨s.ZD.Zd k fun q=>hn _ q rfl,s.nodes.Zd k fun q=>hn _ q rfl,s.Zl.Zd k fun q=>hn _ q rfl,s.told.Zd k fun q=>hn _ q rfl⟩
def Qe (t:Tg):Prop:=False
section
variable {S:Tg→Prop} {o o':Ow} {h h':Hp}
theorem ZB (d:Q3 o h) (b:Zf h.size h h'):Kp Qe o h o h':=Kp.Lf d b _
theorem ZC (k:Kp Qe o h o' h'):Kp S o h o' h':=k.mono fun _ q=>q.elim
theorem ZH.still {wb i nb:Nat} {a:NA} {n:Nd} (s:ZH o h wb i nb a n) (k:Kp Qe o h o' h'):ZH o' h' wb i nb a n:=s.Zd k fun _ q=>q.elim
theorem ZE.still {wb:Nat} {nb:Nat→Nat} {a:WA} {fl:List YY} {bad:Nat→Int} {told:List TS} (s:ZE o h wb nb a fl bad told) (k:Kp Qe o h o' h'):ZE o' h' wb nb a fl bad told:=s.Zd k fun _ q=>q.elim
theorem ZW (d:Q3 o h) (x:Obj):Kp Qe o h o (h.push x):=(Kp.refl d _).push x
end
structure DT (o:Ow) (h:Hp):Prop where
 tk:Tk h
 tn:FF 0 niv Ta h
 fk:o 1=none
 fn:o 0=none
theorem GD {S:Tg→Prop} {o o':Ow} {h h':Hp} {g:Nat} {f:Nat→Value} {l:List Nat} (t:FF g f l h) (hf:o g=none) (k:Kp S o h o' h'):FF g f l h'∧o' g=none:=by
 obtain⟨h1,h2⟩:=k.Zd g t.1 fun t ht=>by rw[hf]at ht;cases ht
 refine⟨⟨Nat.lt_of_lt_of_le t.1 k.size,fun i hi=>?_⟩,by rw[h2,hf]⟩
 have:=t.2 i hi
 unfold hc at this ⊢
 rw[h1];exact this
theorem DT.Zd {S:Tg→Prop} {o o':Ow} {h h':Hp} (t:DT o h) (k:Kp S o h o' h'):DT o' h':=
 ⟨(GD t.tk t.fk k).1,(GD t.tn t.fn k).1,(GD t.tk t.fk k).2,(GD t.tn t.fn k).2⟩
theorem PI.len {cs:List Value} (s:PI cs):cs.length=40:=by
 have:=YC s.fit
 rw[this];rfl
theorem PI.one {cs:List Value} (s:PI cs):cs.all Z6=true:=M7 s.fit
theorem mE (a:Option RA):Z6 (Rk a)=true:=by cases a<;>rfl
section
variable {h:Hp} {nb:Nat} {n:Nd} {a:NA}
structure yS (h:Hp) (nb:Nat) (n:Nd) (a:NA):Prop where
 me:hc h ⟨nb,0,none⟩=some (.int .i64 n.me)
 up:hc h ⟨nb,1,none⟩=some (.bool n.up)
 tape:rd h ⟨nb,2,none⟩ 2=some [a.data,.int .i64 n.Xq]
 own:rd h ⟨nb,4,none⟩ 3=some [.int .i64 n.own.p.r,.int .i64 n.own.p.n,a.YD]
 EY:rd h ⟨nb,4,none⟩ 2=some [.int .i64 n.own.p.r,.int .i64 n.own.p.n]
 Zmq:hc h ⟨nb,4,none⟩=some (.int .i64 n.own.p.r)
 ZxO:hc h ⟨nb,5,none⟩=some (.int .i64 n.own.p.n)
 YD:hc h ⟨nb,6,none⟩=some a.YD
 heard:rd h ⟨nb,7,none⟩ 2=some [.int .i64 n.heard.r,.int .i64 n.heard.n]
 yU:hc h ⟨nb,7,none⟩=some (.int .i64 n.heard.r)
 Zi:hc h ⟨nb,9,none⟩=some (Rk a.Zi)
 known:hc h ⟨nb,10,none⟩=some (.map (some a.known))
 log:hc h ⟨nb,11,none⟩=some a.log
 store:rd h ⟨nb,12,none⟩ 40=some n.store
 queue:hc h ⟨nb,52,none⟩=some a.queue
 waiting:hc h ⟨nb,53,none⟩=some a.waiting
 inbox:hc h ⟨nb,54,none⟩=some a.inbox
 ZQ:hc h ⟨nb,55,none⟩=some a.ZQ
 Xh:hc h ⟨nb,56,none⟩=some (.int .i64 n.Xh)
theorem I6 (hs:n.store.length=40):(Uk n a).length=57:=by
 unfold Uk
 rw[List.length_append,List.length_append,hs];rfl
theorem TX (hs:n.store.length=40) (k:Nat):nth (Uk n a) (52+k)=nth [a.queue,a.waiting,a.inbox,a.ZQ,.int .i64 n.Xh] k:=by
 unfold Uk
 rw[Yi,Yi,List.getElem?_append_right (by simp;omega),List.getElem?_append_right (by simp;omega)]
 congr 1
 simp
 omega
theorem Zx (H:h[nb]? = some (Y4 n a)) (hs:n.store.length=40):yS h nb n a:=by
 have l57:=I6 (a:=a) hs
 have c:∀k,hc h ⟨nb,k,none⟩=nth (Uk n a) k:=fun k=>Zg H
 have r:∀k m,k+m≤57→rd h ⟨nb,k,none⟩ m=some (((Uk n a).drop k).take m):=fun k m hk=>Z3 H (by rw[l57];exact hk)
 refine⟨c 0,c 1,r 2 2 (by omega),r 4 3 (by omega),r 4 2 (by omega),c 4,c 5,c 6,r 7 2 (by omega),c 7,c 9,c 10,c 11,?_,(c 52).trans (TX hs 0),(c 53).trans (TX hs 1),(c 54).trans (TX hs 2),(c 55).trans (TX hs 3),(c 56).trans (TX hs 4)⟩
 rw[r 12 40 (by omega)]
 congr 1
 unfold Uk
 rw[List.drop_append_of_le_length (by simp)]
 simp only[List.drop_succ_cons,List.drop_nil,List.drop_zero,List.nil_append]
 rw[←hs,List.take_left']
 rfl
structure yV (h:Hp) (nb:Nat) (n:Nd) (a:NA):Prop where
 up:∀v,Jg h ⟨nb,1,none⟩ (.bool v)=some (h.setIfInBounds nb (Y4 { n with up:=v } a))
 tape:∀d s,Z6 d=true→wr h ⟨nb,2,none⟩ [d,.int .i64 s]=some (h.setIfInBounds nb (Y4 { n with Xq:=s } { a with data:=d }))
 own:∀r k w,Z6 w=true→wr h ⟨nb,4,none⟩ [.int .i64 r,.int .i64 k,w]=some (h.setIfInBounds nb (Y4 { n with own:=⟨⟨r,k⟩,n.own.l⟩ } { a with YD:=w }))
 heard:∀r k,wr h ⟨nb,7,none⟩ [.int .i64 r,.int .i64 k]=some (h.setIfInBounds nb (Y4 { n with heard:=⟨r,k⟩ } a))
 Zi:∀b,Jg h ⟨nb,9,none⟩ (Rk b)=some (h.setIfInBounds nb (Y4 n { a with Zi:=b }))
 log:∀v,Z6 v=true→Jg h ⟨nb,11,none⟩ v=some (h.setIfInBounds nb (Y4 n { a with log:=v }))
 store:∀cs:List Value,cs.length=40→cs.all Z6=true→wr h ⟨nb,12,none⟩ cs=some (h.setIfInBounds nb (Y4 { n with store:=cs } a))
 queue:∀v,Z6 v=true→Jg h ⟨nb,52,none⟩ v=some (h.setIfInBounds nb (Y4 n { a with queue:=v }))
 waiting:∀v,Z6 v=true→Jg h ⟨nb,53,none⟩ v=some (h.setIfInBounds nb (Y4 n { a with waiting:=v }))
 inbox:∀v,Z6 v=true→Jg h ⟨nb,54,none⟩ v=some (h.setIfInBounds nb (Y4 n { a with inbox:=v }))
 ZQ:∀v,Z6 v=true→Jg h ⟨nb,55,none⟩ v=some (h.setIfInBounds nb (Y4 n { a with ZQ:=v }))
 Xh:∀k,Jg h ⟨nb,56,none⟩ (.int .i64 k)=some (h.setIfInBounds nb (Y4 { n with Xh:=k } a))
theorem set_tail (pre mid l:List Value) (k:Nat) (v:Value) (hk:pre.length+mid.length=52):(pre++(mid++l)).set (52+k) v=pre++(mid++l.set k v):=by
 rw[List.set_append_right _ _ (by omega),List.set_append_right _ _ (by omega)]
 congr 3
 omega
theorem YI (H:h[nb]? = some (Y4 n a)) (hs:n.store.length=40):yV h nb n a:=by
 have l57:=I6 (a:=a) hs
 have w1:∀(k:Nat) (v:Value) (n':Nd) (a':NA),k<57→Z6 v=true→(Uk n a).set k v=Uk n' a'→Jg h ⟨nb,k,none⟩ v=some (h.setIfInBounds nb (Y4 n' a')):=fun k v n' a' hk hv he=>by
  rw[Yp H,if_pos ⟨by rw[l57];exact hk,hv⟩,he];rfl
 have w:∀(k:Nat) (vs:List Value) (n':Nd) (a':NA),k+vs.length≤57→vs.all Z6=true→Ym (Uk n a) k vs=Uk n' a'→wr h ⟨nb,k,none⟩ vs=some (h.setIfInBounds nb (Y4 n' a')):=fun k vs n' a' hk hv he=>by
  rw[ZP H,if_pos ⟨by rw[l57];exact hk,hv⟩,he];rfl
 refine⟨fun v=>w1 _ _ _ _ (by omega) rfl rfl,fun d s hd=>w _ _ _ _ (by simp) (by rw[List.all_cons,hd];rfl) rfl,fun r k v hv=>w _ _ _ _ (by simp) (by simp only[List.all_cons,hv];rfl) rfl,fun r k=>w _ _ _ _ (by simp) (by simp[Z6]) rfl,fun b=>w1 _ _ _ _ (by omega) (mE b) rfl,fun v hv=>w1 _ _ _ _ (by omega) hv rfl,fun cs hl Y8=>w _ _ _ _ (by omega) Y8 ?_,
  fun v hv=>w1 _ _ _ _ (by omega) hv ?_,fun v hv=>w1 _ _ _ _ (by omega) hv ?_,fun v hv=>w1 _ _ _ _ (by omega) hv ?_,fun v hv=>w1 _ _ _ _ (by omega) hv ?_,fun k=>w1 _ _ _ _ (by omega) rfl ?_⟩
 ·unfold Uk
  exact Wf rfl (by rw[hl,hs])
 all_goals
  unfold Uk
  first
   | exact set_tail _ _ _ 0 _ (by rw[hs];rfl)
   | exact set_tail _ _ _ 1 _ (by rw[hs];rfl)
   | exact set_tail _ _ _ 2 _ (by rw[hs];rfl)
   | exact set_tail _ _ _ 3 _ (by rw[hs];rfl)
   | exact set_tail _ _ _ 4 _ (by rw[hs];rfl)
end
section
variable {h:Hp} {wb:Nat} {bad:Nat→Int} {a:WA}
structure rS (h:Hp) (wb:Nat) (bad:Nat→Int) (a:WA):Prop where
 nodes:hc h ⟨wb,0,none⟩=some a.nodes
 Zl:hc h ⟨wb,1,none⟩=some a.Zl
 told:hc h ⟨wb,14,none⟩=some a.told
 out:rd h ⟨wb,2,none⟩ 13=some [.int .i64 0,.bool false,.bool false,.bool false,.bool false,.bool false,.slice none 0 0,.int .i64 (bad 0),.int .i64 (bad 1),.int .i64 (bad 2),.int .i64 (bad 3),.int .i64 (bad 4),a.told]
 GF:∀v,Z6 v=true→Jg h ⟨wb,1,none⟩ v=some (h.setIfInBounds wb (.cells (Y2 bad { a with Zl:=v }).toArray 97))
 ve:∀v,Z6 v=true→Jg h ⟨wb,14,none⟩ v=some (h.setIfInBounds wb (.cells (Y2 bad { a with told:=v }).toArray 97))
 yW:∀v,Z6 v=true→Jg h ⟨wb,0,none⟩ v=some (h.setIfInBounds wb (.cells (Y2 bad { a with nodes:=v }).toArray 97))
theorem YQ (H:h[wb]? = some (.cells (Y2 bad a).toArray 97)):rS h wb bad a:=by
 refine⟨Zg H,Zg H,Zg H,Z3 H (by simp[Y2]),fun v hv=>?_,fun v hv=>?_,fun v hv=>?_⟩
 all_goals
  rw[Yp H,if_pos ⟨by simp[Y2],hv⟩]
  rfl
end
theorem Im.isSlice {o:Ow} {n:Nat} {h:Hp} {v:Value} {m:Nat} {cs:List Value} (s:Im o n h v m cs):∃p c,v=.slice p m c:=by
 obtain⟨p,c,h,_⟩:=s.fits;exact⟨p,c,h⟩
theorem QU {α:Type} (enc:α→List Value) (x:α):Zu enc [x]=enc x:=by simp[Zu]
def aW (t:Tg):Prop:=t=.world∨t=.Zl
theorem Uv (T:World) (h:Hp) (o:Ow) (wb nb:Nat) (Z4:Nat→Nat) (me:Nat) (Yy:WA) (fl:List YY) (bad:Nat→Int) (told:List TS) (to:Int) (l:YY) (w:Value) (d:Q3 o h)
  (W:ZE o h wb Z4 Yy fl bad told) (fE:hc h ⟨nb,0,none⟩=some (.int .i64 me)) (WS:nb<h.size) (iv:UZ o h w l.vs) (Yk:fl.length≤1000000000000) :
  Zc Tryz.prog T 102 #[Zn wb,Zn nb,.int .i64 to,.agg (YP l w).toArray] h fun v' h'=>∃o' Xl,Kp aW o h o' h'∧(∀b,b<h.size→o' b=o b)∧ZE o' h' wb Z4 Xl (fl++[⟨l.kind,me,to,l.b,l.v,l.vs⟩]) bad told:=by
 obtain⟨p,c,hw⟩:=iv.isSlice
 have Y8:Z6 w=true:=by rw[hw];rfl
 have GG:=Za W.ZD.2
 have R0:=YQ W.ZD.2
 refine Zc.Zh (args:=[_,_,_,_]) Tryz.func102 rfl rfl rfl rfl ?_
 unfold Zn YP
 have e1:nb≠h.size:=by omega
 have e2:wb≠h.size:=by omega
 simp -implicitDefEqProofs only[go_sem,↓reduceIte,T8,e1,fE]
 refine VS.z (h.size+1) [7,10] (.p 0 (.p 1 (.p 2 (.p 3 (.q 4 (.q 5 (.s 6 (.w 7 (.p 8 (.p 9 (.w 10 .nil))))))))))) mixed (by kernel_rfl) ?_
 simp -implicitDefEqProofs only[go_sem,↓reduceIte,T8,A7,e1,e2,fE,R0.Zl,GG]
 obtain⟨h1,Yv⟩:=Zy (h.push (.cells (YP ⟨l.kind,me,to,l.b,l.v,l.vs⟩ w).toArray 148):Hp)
 have s1:h1.size=h.size+1:=by rw[Yv];simp
 obtain⟨h2,UY⟩:=Zy (h1.push (.cells (YP ⟨l.kind,me,to,l.b,l.v,l.vs⟩ w).toArray 148):Hp)
 have ee:((h.push (.cells (YP ⟨l.kind,me,to,l.b,l.v,l.vs⟩ w).toArray 148)).push (.cells (YP ⟨l.kind,me,to,l.b,l.v,l.vs⟩ w).toArray 148))=h2:=by rw[UY,Yv]
 unfold YP at ee
 simp only at ee
 refine⟨Zf.push (by simp) _,?_⟩
 rw[ee]
 have k2:Kp (fun _=>False) o h o h2:=by rw[UY,Yv];exact ((Kp.refl d _).push _).push _
 have W2:=W.Zd k2 (fun _ q=>q.elim)
 have gY:=iv.Zd k2
 obtain⟨xs,Qg,S9,Br⟩:=W2.Zl
 have BH:xs.length=fl.length:=by rw[←Qg,List.length_map]
 have src:Sl 14 h2 (.slice (some ⟨h.size+1,0,none⟩) 1 1) 1 (YP ⟨l.kind,me,to,l.b,l.v,l.vs⟩ w):=by
  rw[UY,←s1];exact Sl.made (by simp[YP]) 1
 refine XQ (E:=148) (n:=14) (bytes:=128) (k:=1) ak Tryz.underlying95 jY ar rfl uC S9 k2.ZU src (by rw[YP,List.all_eq_true];intro x hx;simp at hx;rcases hx with rfl|rfl|rfl|rfl|rfl|rfl|rfl|rfl|rfl|rfl|rfl|rfl|rfl|rfl<;>first|rfl|exact Y8) (by omega) (by omega) ?_
 intro v' o3 h3 w3 k3 q3
 have b3:=W2.ZD.Zd k3 (by intro q;cases q)
 have R3:=YQ b3.2
 obtain⟨p3,c3,rfl,_⟩:=w3.isSlice
 have hw3:=Za b3.2
 have e3:=R3.GF (.slice p3 (xs.length+1) c3) rfl
 simp -implicitDefEqProofs only[go_sem,↓reduceIte,e3]
 have k4:Kp aW o h o3 h3:=(k2.mono fun _ q=>q.elim).trans (k3.mono fun u q=>.inr q)
 have k5:=k4.set b3.1 (.inl rfl) (.cells (Y2 bad { Yy with Zl:=.slice p3 (xs.length+1) c3 }).toArray 97)
 have kk:Kp (fun u=>u=.world) o3 h3 o3 (h3.setIfInBounds wb (.cells (Y2 bad { Yy with Zl:=.slice p3 (xs.length+1) c3 }).toArray 97)):=(Kp.refl k3.ZU (fun u=>u=.world)).set b3.1 rfl _
 refine⟨o3,{ Yy with Zl:=.slice p3 (xs.length+1) c3 },k5,fun b hb=>q3 b (by have:=k2.size;omega),⟨b3.1,Zt b3.2⟩,(W2.nodes.Zd k3 (by intro q;cases q)).Zd kk (by intro q;cases q),⟨xs++[(⟨l.kind,me,to,l.b,l.v,l.vs⟩,w)],?_,?_,fun x hx=>?_⟩,(W2.told.Zd k3 (by intro q;cases q)).Zd kk (by intro q;cases q)⟩
 ·rw[List.map_append,Qg];rfl
 ·have:=w3.Zd kk (by intro q;cases q)
  rw[Yc,QU,List.length_append]
  exact this
 ·rcases List.mem_append.1 hx with hx|hx
  ·exact ((Br x hx).Zd k3).Zd kk
  ·have:x=(⟨l.kind,me,to,l.b,l.v,l.vs⟩,w):=by simpa using hx
   subst this
   exact (gY.Zd k3).Zd kk
@[go_sem] theorem Zms (x:Cm):Yo [some .i64,some .i64,some .i64,some .i64,some .i64] x.C=true:=rfl
@[go_sem] theorem Zmt (x y:Cm):leq x.C y.C=decide (x=y):=by
 obtain⟨a,b,c,d,e⟩:=x
 obtain⟨a',b',c',d',e'⟩:=y
 unfold Qc.C Qb
 rw[Bool.eq_iff_iff]
 simp[leq,ceq,Qc.mk.injEq]
@[go_sem] theorem PJ (x:Cm):x.C.length=5:=rfl
@[go_sem] theorem mF (x:Cm):x.C.all Z6=true:=rfl
@[go_sem] theorem ZhD (x:Cm):Ym [.int .i64 0,.int .i64 0,.int .i64 0,.int .i64 0,.int .i64 0] 0 x.C=x.C:=rfl
theorem Ju {h:Hp} {v:Value} {l:List Cm} (s:Ts Qc.C 5 h v l):∃p c,v=.slice p l.length c∧(l≠[]→∃b o,p=some ⟨b,o,none⟩∧b<h.size∧∀i (hi:i<l.length),rd h ⟨b,o+i*5,none⟩ 5=some (l[i]).C):=by
 obtain⟨p,c,hv,hh⟩:=s.open PJ (by decide)
 refine⟨p,c,hv,fun Yq=>?_⟩
 obtain⟨b,o,h1,h2,h3⟩:=hh Yq
 exact⟨b,o,h1,h2,fun i hi=>(h3 i hi).rd (by simp[Qc.C,Qb]) rfl⟩
def Vq (l:List Cm) (x:Cm):Int:=if x∈l then (l.idxOf x:Int) else -1
theorem mG {l:List Cm} {x:Cm} {i:Nat} (hi:i<l.length) (he:l[i]=x) (hn:∀j (hj:j<l.length),j<i→l[j]≠x):l.idxOf x=i:=by
 have hx:x∈l:=he▸List.getElem_mem hi
 have h1:l.idxOf x<l.length:=List.idxOf_lt_length_of_mem hx
 have h2:l[l.idxOf x]=x:=List.getElem_idxOf h1
 rcases Nat.lt_trichotomy (l.idxOf x) i with h|h|h
 ·exact absurd h2 (hn _ h1 h)
 ·exact h
 ·have:=List.not_of_lt_findIdx (p:=(· == x)) (xs:=l) (i:=i) h
  simp[he]at this
theorem aX {l:List Cm} {x:Cm} {i:Nat} (hi:i<l.length) (he:l[i]=x) (hn:∀j (hj:j<l.length),j<i→l[j]≠x):Vq l x=i:=by
 unfold Vq
 rw[if_pos (he▸List.getElem_mem hi),mG hi he hn]
theorem I7 {l:List Cm} {x:Cm} (hn:∀j (hj:j<l.length),l[j]≠x):Vq l x = -1:=by
 unfold Vq
 rw[if_neg fun hm=>by obtain⟨j,hj,he⟩:=List.getElem_of_mem hm;exact hn j hj he]
theorem PK (l:List Cm) (x:Cm):0≤Vq l x↔x∈l:=by
 unfold Vq
 split
 ·rename_i h;exact⟨fun _=>h,fun _=>by omega⟩
 ·rename_i h;exact⟨fun q=>by omega,fun q=>absurd q h⟩
theorem L0 (T:World) (h:Hp) (v:Value) (l:List Cm) (x:Cm) (s:Ts Qc.C 5 h v l) (hl:l.length≤4611686018427387904) :
  Zc Tryz.prog T 74 #[v,Wr x] h fun v' h'=>v'=.int .i64 (Vq l x)∧Zf h.size h h':=by
 obtain⟨p,c,rfl,YL⟩:=Ju s
 refine Zc.Zh (args:=[_,_]) Tryz.func74 rfl rfl rfl rfl ?_
 unfold Wr
 simp -implicitDefEqProofs only[go_sem,↓reduceIte]
 obtain⟨h1,Yv⟩:=Zy (h.push (.cells x.C.toArray 49):Hp)
 have b1:Zf h.size h h1:=by rw[Yv];exact Zf.push (Nat.le_refl _) _
 have x1:h1[h.size]? = some (.cells x.C.toArray 49):=by rw[Yv];exact Zb
 rw[←Yv]
 clear Yv
 refine VS.ZV (fun F g=>g=h1∧F 0=.slice p l.length c∧F 3=.pointer (some ⟨h.size,0,none⟩)∧F 7=.int .i64 l.length∧∃i:Nat,i≤l.length∧F 8=.int .i64 i∧∀j (hj:j<l.length),j<i→l[j]≠x)
  (fun F _=>l.length-(vi (F 8)).toNat) rfl ⟨rfl,rfl,rfl,rfl,0,by omega,rfl,fun j hj q=>by omega⟩ ?_
 rintro F g ⟨rfl,f0,f3,f7,i,hi,f8,YU⟩
 by_cases ZA:i<l.length
 ·have ZI:(i:Int)<l.length:=by omega
  obtain⟨bb,oo,rfl,UX,Ge⟩:=YL (by intro e;rw[e]at ZA;simp at ZA)
  have r1:rd g ⟨bb,oo+i*5,none⟩ 5=some (l[i]).C:=by rw[JH b1 (by exact UX)];exact Ge i ZA
  have r0:rd g ⟨h.size,0,none⟩ 5=some x.C:=Zo x1 rfl
  simp -implicitDefEqProofs only[go_sem,↓reduceIte,f0,f3,f7,f8,ZI]
  refine VS.q mixed (by kernel_rfl) ?_
  simp -implicitDefEqProofs only[go_sem,↓reduceIte,f0,f3,f7,f8,ZI,r1,r0]
  by_cases q:l[i]=x
  ·have e:=aX ZA q YU
   rw[q]
   simp -implicitDefEqProofs only[go_sem,↓reduceIte,e,b1]
  ·have q':¬x=l[i]:=fun e=>q e.symm
   simp -implicitDefEqProofs only[go_sem,↓reduceIte,q',f0,f3,f7,f8]
   refine⟨⟨rfl,f0,f3,f7,i+1,ZA,rfl,fun j hj U8=>?_⟩,?_⟩
   ·by_cases e:j=i
    ·subst e;exact q
    ·exact YU j hj (by omega)
   ·simp only[vi,Zj,↓reduceIte,f8];omega
 ·have YF:¬(i:Int)<l.length:=by omega
  have e:=I7 (l:=l) (x:=x) fun j hj=>YU j hj (by omega)
  simp -implicitDefEqProofs only[go_sem,↓reduceIte,f7,f8,YF,e,b1]
theorem WL (T:World) (h:Hp) (v:Value) (l:List Cm) (x:Cm) (s:Ts Qc.C 5 h v l) (hl:l.length≤4611686018427387904) :
  Zc Tryz.prog T 76 #[v,Wr x] h fun v' h'=>v'=.bool (decide (x∈l))∧Zf h.size h h':=by
 obtain⟨p,c,rfl,YL⟩:=Ju s
 refine Zc.Zh (args:=[_,_]) Tryz.func76 rfl rfl rfl rfl ?_
 unfold Wr
 simp -implicitDefEqProofs only[go_sem,↓reduceIte]
 refine (L0 T _ _ l x (s.Z7 ((Zf.refl _ _).add _)) hl).use ?_
 rintro _ h2 ⟨rfl,b2⟩
 have b:Zf h.size h h2:=((Zf.refl _ _).add _).trans (b2.mono (by simp))
 simp -implicitDefEqProofs only[go_sem,↓reduceIte,PK,b]
theorem I8 (T:World) (h:Hp) (b:Nat) (x y:Cm) (hb:h[b]? = some (.cells x.C.toArray 49)) :
  Zc Tryz.prog T 137 #[Wr y,Zn b] h fun v' h'=>v'=.bool (decide (y=x))∧Zf h.size h h':=by
 have ZA:=Za hb
 refine Zc.Zh (args:=[_,_]) Tryz.func137 rfl rfl rfl rfl ?_
 unfold Wr Zn
 have Yq:b≠h.size:=by omega
 have r0:rd (h.push (.cells y.C.toArray 49)) ⟨h.size,0,none⟩ 5=some y.C:=Zo Zb rfl
 have r1:rd (h.push (.cells y.C.toArray 49)) ⟨b,0,none⟩ 5=some x.C:=Zo (by rw[Zq ZA];exact hb) rfl
 simp -implicitDefEqProofs only[go_sem,↓reduceIte,r0,r1]
def Nz (b:Nat):Value:=U6 137 [b]
theorem L1 (T:World) (h:Hp) (v:Value) (l:List Cm) (b:Nat) (x:Cm) (s:Ts Qc.C 5 h v l) (hb:h[b]? = some (.cells x.C.toArray 49)) (hl:l.length≤4611686018427387904) :
  Zc Tryz.prog T 139 #[v,Nz b] h fun v' h'=>v'=.int .i64 (Vq l x)∧Zf h.size h h':=by
 obtain⟨p,c,rfl,YL⟩:=Ju s
 refine Zc.Zh (args:=[_,_]) Tryz.func139 rfl rfl rfl rfl ?_
 have ZA:=Za hb
 unfold Nz U6
 simp -implicitDefEqProofs only[go_sem,↓reduceIte]
 refine VS.ZV (fun F g=>Zf h.size h g∧F 0=.slice p l.length c∧F 1=Nz b∧F 7=.int .i64 l.length∧∃i:Nat,i≤l.length∧F 8=.int .i64 i∧∀j (hj:j<l.length),j<i→l[j]≠x)
  (fun F _=>l.length-(vi (F 8)).toNat) rfl ⟨Zf.refl _ _,rfl,rfl,rfl,0,by omega,rfl,fun j hj q=>by omega⟩ ?_
 rintro F g ⟨hg,f0,f1,f7,i,hi,f8,YU⟩
 by_cases ZA:i<l.length
 ·have ZI:(i:Int)<l.length:=by omega
  obtain⟨bb,oo,rfl,UX,Ge⟩:=YL (by intro e;rw[e]at ZA;simp at ZA)
  have r1:rd g ⟨bb,oo+i*5,none⟩ 5=some (l[i]).C:=by rw[JH hg (by exact UX)];exact Ge i ZA
  unfold Nz U6 at f1
  simp only[List.map]at f1
  simp -implicitDefEqProofs only[go_sem,↓reduceIte,f0,f1,f7,f8,ZI,r1]
  refine (I8 T g b x l[i] (hg.get (by omega) hb)).use ?_
  rintro _ g1 ⟨rfl,b1⟩
  have PY:Zf h.size h g1:=hg.trans (b1.mono hg.size)
  by_cases q:l[i]=x
  ·have e:=aX ZA q YU
   simp -implicitDefEqProofs only[go_sem,↓reduceIte,q,f8,e,PY]
  ·simp -implicitDefEqProofs only[go_sem,↓reduceIte,q,f0,f1,f7,f8]
   refine⟨⟨PY,f0,f1,f7,i+1,ZA,rfl,fun j hj U8=>?_⟩,?_⟩
   ·by_cases e:j=i
    ·subst e;exact q
    ·exact YU j hj (by omega)
   ·simp only[vi,Zj,↓reduceIte,f8];omega
 ·have YF:¬(i:Int)<l.length:=by omega
  have e:=I7 (l:=l) (x:=x) fun j hj=>YU j hj (by omega)
  simp -implicitDefEqProofs only[go_sem,↓reduceIte,f7,f8,YF,e,hg]
theorem EZ (T:World) (h:Hp) (o:Ow) (t:Tg) (v:Value) (m i:Nat) (cs:List Value) (s:Ys o t 49 5 h v m cs) (d:Q3 o h) (Y8:cs.all Z6=true) (hi:i<m) (hm:m≤4611686018427387904) :
  Zc Tryz.prog T 140 #[v,.int .i64 i,.int .i64 ((i:Int)+1)] h fun v' h'=>Ys o t 49 5 h' v' (m-1) (cs.take (i*5)++cs.drop ((i+1)*5))∧Kp (fun u=>u=t) o h o h':=by
 rcases s with⟨⟨p,rfl⟩,rfl,rfl⟩|⟨b,off,cap,pre,spare,h1,rfl,h3,h4,h5,h6,h7⟩
 ·omega
 refine Zc.Zh (args:=[_,_,_]) Tryz.func140 rfl rfl rfl rfl ?_
 have e1:(i:Int)≤m:=by omega
 have e2:(i:Int)+1≤m:=by omega
 have e3:(m:Int)≤cap:=by omega
 have e4:(i:Int)≠i+1:=by omega
 have e5:((i:Int)+1).toNat=i+1:=by omega
 have e6:(0:Int)≤i+1:=by omega
 have e7:(i:Int)≤i+1:=by omega
 have e8:(i:Int)≤cap:=by omega
 have c0:cap≠0:=by omega
 simp -implicitDefEqProofs only[go_sem,↓reduceIte,e1,e2,e3,e4,e5,e6,e7,e8]
 refine VS.z (h.size) [6] (.p 0 (.p 1 (.p 2 (.p 3 (.p 4 (.p 5 (.w 6 (.p 7 .nil)))))))) mixed (by kernel_rfl) ?_
 simp -implicitDefEqProofs only[go_sem,↓reduceIte,e1,e2,e3,e4,e5,e6,e7,e8,c0]
 have hin:i*5≤m*5:=Nat.mul_le_mul_right _ (by omega)
 have Zmu:(i+1)*5≤m*5:=Nat.mul_le_mul_right _ (by omega)
 have gM:m*5≤cap*5:=Nat.mul_le_mul_right _ h7
 have ZD:h[b]? = some (.cells (pre++(cs.take (i*5)++(cs.drop (i*5)++spare))).toArray 49 (0,0)):=by
  rw[←List.append_assoc (List.take _ _),List.take_append_drop];exact h3
 have src:Sl 5 h (.slice (if cap=i+1 then some ⟨b,off,none⟩ else some ⟨b,off+(i+1)*5,none⟩) (m-(i+1)) (cap-(i+1))) (m-(i+1)) (cs.drop ((i+1)*5)):=by
  have:=(Ys.tail (k:=i+1) (.inr ⟨b,off,cap,pre,spare,h1,rfl,h3,h4,h5,h6,h7⟩:Ys o t 49 5 h (.slice (some ⟨b,off,none⟩) m cap) m cs) (by omega)).sl
  rw[Option.map_some,YN]at this
  exact this
 have nl:(cs.drop ((i+1)*5)).length=(m-(i+1))*5:=by rw[List.length_drop,h5,Nat.sub_mul]
 refine Lg (E:=49) (n:=5) (m:=i) (k:=m-(i+1)) (cs:=cs.take (i*5)) FL Tryz.underlying37 xp jX ZD h4.symm (by rw[List.length_take];omega) src (List.all_eq_true.2 fun x hx=>List.all_eq_true.1 Y8 x (List.mem_of_mem_drop hx)) (by omega) (by rw[List.length_append,List.length_drop,h5,←Nat.sub_mul];have:(m-(i+1))*5≤(m-i)*5:=Nat.mul_le_mul_right _ (by omega);omega) ?_
 obtain⟨g,hg⟩:=Zy (h.setIfInBounds b (.cells (pre++((cs.take (i*5)++cs.drop ((i+1)*5))++(cs.drop (i*5)++spare).drop ((m-(i+1))*5))).toArray 49 (0,0)):Hp)
 rw[←hg]
 have kg:Kp (fun u=>u=t) o h o g:=by rw[hg];exact (Kp.refl d (fun u=>u=t)).set h1 rfl _
 have gb:=Zt (o:=.cells (pre++((cs.take (i*5)++cs.drop ((i+1)*5))++(cs.drop (i*5)++spare).drop ((m-(i+1))*5))).toArray 49 (0,0)) h3
 rw[←hg]at gb
 have e9:i+(m-(i+1))=m-1:=by omega
 have f1:((m-1:Nat):Int)≤m:=by omega
 have f2:(0:Int)≤((m-1:Nat):Int):=by omega
 have f3:cap≠m-1:=by omega
 have f4:(((m-1:Nat):Int)).toNat=m-1:=by omega
 have f5:(0:Int)≤m:=by omega
 have f6:((m-1:Nat):Int)≤cap:=by omega
 rw[e9]
 simp -implicitDefEqProofs only[go_sem,↓reduceIte,e3,f1,f2,f3,f4,f5,f6]
 have tl:((cs.drop (i*5)++spare).drop ((m-(i+1))*5)).length=5+spare.length:=by
  rw[List.length_drop,List.length_append,List.length_drop,h5]
  have:(m-(i+1))*5+5=m*5-i*5:=by rw[←Nat.sub_mul,←Nat.succ_mul];congr 1;omega
  omega
 obtain⟨tail,ht⟩:=Zy ((cs.drop (i*5)++spare).drop ((m-(i+1))*5))
 rw[←ht]at gb tl
 obtain⟨body,Bj⟩:=Zy (cs.take (i*5)++cs.drop ((i+1)*5))
 have bl:body.length=(m-1)*5:=by
  rw[Bj,List.length_append,List.length_take,nl,h5,Nat.min_eq_left hin,←Nat.add_mul];congr 1
 rw[←Bj]at gb ⊢
 have vf:g[b]? = some (.cells ((pre++body)++(tail.take 5++tail.drop 5)).toArray 49 (0,0)):=by
  rw[List.take_append_drop,List.append_assoc];exact gb
 have e10:m-(m-1)=1:=by omega
 rw[e10]
 refine Oi (E:=49) (n:=5) (k:=1) FL jX rfl rfl vf (by rw[List.length_append,h4,bl]) (by rw[List.length_take];omega) ?_
 intro new BV
 simp -implicitDefEqProofs only[go_sem,↓reduceIte]
 have kk:=kg.set h1 rfl (.cells ((pre++body)++(new++tail.drop 5)).toArray 49 (0,0))
 refine⟨.inr ⟨b,off,cap,pre,new++tail.drop 5,h1,rfl,?_,h4,bl,?_,by omega⟩,kk⟩
 ·rw[Zt vf,List.append_assoc]
 ·rw[List.length_append,BV,List.length_take,List.length_drop,tl,h6]
  have:(cap-(m-1))*5=(cap-m)*5+5:=by rw[←Nat.succ_mul];congr 1;omega
  omega
theorem E6 (T:World) (h:Hp) (o:Ow) (t:Tg) (v:Value) (m i:Nat) (cs:List Value) (s:Ys o t 148 14 h v m cs) (d:Q3 o h) (Y8:cs.all Z6=true) (hi:i<m) (hm:m≤4611686018427387904) :
  Zc Tryz.prog T 80 #[v,.int .i64 i,.int .i64 ((i:Int)+1)] h fun v' h'=>Ys o t 148 14 h' v' (m-1) (cs.take (i*14)++cs.drop ((i+1)*14))∧Kp (fun u=>u=t) o h o h':=by
 rcases s with⟨⟨p,rfl⟩,rfl,rfl⟩|⟨b,off,cap,pre,spare,h1,rfl,h3,h4,h5,h6,h7⟩
 ·omega
 refine Zc.Zh (args:=[_,_,_]) Tryz.func80 rfl rfl rfl rfl ?_
 have e1:(i:Int)≤m:=by omega
 have e2:(i:Int)+1≤m:=by omega
 have e3:(m:Int)≤cap:=by omega
 have e4:(i:Int)≠i+1:=by omega
 have e5:((i:Int)+1).toNat=i+1:=by omega
 have e6:(0:Int)≤i+1:=by omega
 have e7:(i:Int)≤i+1:=by omega
 have e8:(i:Int)≤cap:=by omega
 have c0:cap≠0:=by omega
 simp -implicitDefEqProofs only[go_sem,↓reduceIte,e1,e2,e3,e4,e5,e6,e7,e8]
 refine VS.z (h.size) [6] (.p 0 (.p 1 (.p 2 (.p 3 (.p 4 (.p 5 (.w 6 (.p 7 .nil)))))))) mixed (by kernel_rfl) ?_
 simp -implicitDefEqProofs only[go_sem,↓reduceIte,e1,e2,e3,e4,e5,e6,e7,e8,c0]
 have hin:i*14≤m*14:=Nat.mul_le_mul_right _ (by omega)
 have Zmu:(i+1)*14≤m*14:=Nat.mul_le_mul_right _ (by omega)
 have gM:m*14≤cap*14:=Nat.mul_le_mul_right _ h7
 have ZD:h[b]? = some (.cells (pre++(cs.take (i*14)++(cs.drop (i*14)++spare))).toArray 148 (0,0)):=by
  rw[←List.append_assoc (List.take _ _),List.take_append_drop];exact h3
 have src:Sl 14 h (.slice (if cap=i+1 then some ⟨b,off,none⟩ else some ⟨b,off+(i+1)*14,none⟩) (m-(i+1)) (cap-(i+1))) (m-(i+1)) (cs.drop ((i+1)*14)):=by
  have:=(Ys.tail (k:=i+1) (.inr ⟨b,off,cap,pre,spare,h1,rfl,h3,h4,h5,h6,h7⟩:Ys o t 148 14 h (.slice (some ⟨b,off,none⟩) m cap) m cs) (by omega)).sl
  rw[Option.map_some,YN]at this
  exact this
 have nl:(cs.drop ((i+1)*14)).length=(m-(i+1))*14:=by rw[List.length_drop,h5,Nat.sub_mul]
 refine Lg (E:=148) (n:=14) (m:=i) (k:=m-(i+1)) (cs:=cs.take (i*14)) ak Tryz.underlying95 jY ar ZD h4.symm (by rw[List.length_take];omega) src (List.all_eq_true.2 fun x hx=>List.all_eq_true.1 Y8 x (List.mem_of_mem_drop hx)) (by omega) (by rw[List.length_append,List.length_drop,h5,←Nat.sub_mul];have:(m-(i+1))*14≤(m-i)*14:=Nat.mul_le_mul_right _ (by omega);omega) ?_
 obtain⟨g,hg⟩:=Zy (h.setIfInBounds b (.cells (pre++((cs.take (i*14)++cs.drop ((i+1)*14))++(cs.drop (i*14)++spare).drop ((m-(i+1))*14))).toArray 148 (0,0)):Hp)
 rw[←hg]
 have kg:Kp (fun u=>u=t) o h o g:=by rw[hg];exact (Kp.refl d (fun u=>u=t)).set h1 rfl _
 have gb:=Zt (o:=.cells (pre++((cs.take (i*14)++cs.drop ((i+1)*14))++(cs.drop (i*14)++spare).drop ((m-(i+1))*14))).toArray 148 (0,0)) h3
 rw[←hg]at gb
 have e9:i+(m-(i+1))=m-1:=by omega
 have f1:((m-1:Nat):Int)≤m:=by omega
 have f2:(0:Int)≤((m-1:Nat):Int):=by omega
 have f3:cap≠m-1:=by omega
 have f4:(((m-1:Nat):Int)).toNat=m-1:=by omega
 have f5:(0:Int)≤m:=by omega
 have f6:((m-1:Nat):Int)≤cap:=by omega
 rw[e9]
 simp -implicitDefEqProofs only[go_sem,↓reduceIte,e3,f1,f2,f3,f4,f5,f6]
 have tl:((cs.drop (i*14)++spare).drop ((m-(i+1))*14)).length=14+spare.length:=by
  rw[List.length_drop,List.length_append,List.length_drop,h5]
  have:(m-(i+1))*14+14=m*14-i*14:=by rw[←Nat.sub_mul,←Nat.succ_mul];congr 1;omega
  omega
 obtain⟨tail,ht⟩:=Zy ((cs.drop (i*14)++spare).drop ((m-(i+1))*14))
 rw[←ht]at gb tl
 obtain⟨body,Bj⟩:=Zy (cs.take (i*14)++cs.drop ((i+1)*14))
 have bl:body.length=(m-1)*14:=by
  rw[Bj,List.length_append,List.length_take,nl,h5,Nat.min_eq_left hin,←Nat.add_mul];congr 1
 rw[←Bj]at gb ⊢
 have vf:g[b]? = some (.cells ((pre++body)++(tail.take 14++tail.drop 14)).toArray 148 (0,0)):=by
  rw[List.take_append_drop,List.append_assoc];exact gb
 have e10:m-(m-1)=1:=by omega
 rw[e10]
 refine Oi (E:=148) (n:=14) (k:=1) ak ar rfl rfl vf (by rw[List.length_append,h4,bl]) (by rw[List.length_take];omega) ?_
 intro new BV
 simp -implicitDefEqProofs only[go_sem,↓reduceIte]
 have kk:=kg.set h1 rfl (.cells ((pre++body)++(new++tail.drop 14)).toArray 148 (0,0))
 refine⟨.inr ⟨b,off,cap,pre,new++tail.drop 14,h1,rfl,?_,h4,bl,?_,by omega⟩,kk⟩
 ·rw[Zt vf,List.append_assoc]
 ·rw[List.length_append,BV,List.length_take,List.length_drop,tl,h6]
  have:(cap-(m-1))*14=(cap-m)*14+14:=by rw[←Nat.succ_mul];congr 1;omega
  omega
section
variable {α:Type} {enc:α→List Value} {n:Nat}
theorem Sn (QC:∀x,(enc x).length=n) (l:List α) (i:Nat) (hi:i≤l.length):(Zu enc l).take (i*n)=Zu enc (l.take i):=by
 have h1:(Zu enc (l.take i)).length=i*n:=by rw[Jl QC,List.length_take,Nat.min_eq_left hi]
 have h2:Zu enc l=Zu enc (l.take i)++Zu enc (l.drop i):=by rw[←Yc,List.take_append_drop]
 rw[h2,←h1,List.take_left]
theorem Vr (QC:∀x,(enc x).length=n) (l:List α) (i:Nat) (hi:i≤l.length):(Zu enc l).drop (i*n)=Zu enc (l.drop i):=by
 have h1:(Zu enc (l.take i)).length=i*n:=by rw[Jl QC,List.length_take,Nat.min_eq_left hi]
 have h2:Zu enc l=Zu enc (l.take i)++Zu enc (l.drop i):=by rw[←Yc,List.take_append_drop]
 rw[h2,←h1,List.drop_left]
theorem mH (QC:∀x,(enc x).length=n) (l:List α) (i:Nat) (hi:i<l.length) (y:α):Zu enc (l.set i y)=(Zu enc l).take (i*n)++(enc y++(Zu enc l).drop ((i+1)*n)):=by
 rw[List.set_eq_take_append_cons_drop,if_pos hi,Yc,Sn QC _ _ (by omega),Vr QC _ _ (by omega)]
 rfl
end
theorem rT (l:List Cm):(Zu Qc.C l).all Z6=true:=by
 induction l with
 | nil=>rfl
 | cons x l ih=>rw[Zu,List.all_append,ih];rfl
theorem WM {l:List Cm} {j:Nat} (hj:j<l.length) (q:Cm→Bool):(l.take (j+1)).filter q=(l.take j).filter q++if q l[j]=true then [l[j]] else []:=by
 rw[Ye l j hj,List.filter_append]
 congr 1
 cases h:q l[j]<;>simp[h]
theorem E7 {l:List Cm} {x:Cm} {i:Nat} (h:Vq l x=i):i<l.length∧(l.take i).filter (fun y=>decide (y≠x))=l.take i∧l[i]? = some x:=by
 unfold Vq at h
 split at h
 ·rename_i hm
  have hi:l.idxOf x=i:=by omega
  have h1:l.idxOf x<l.length:=List.idxOf_lt_length_of_mem hm
  refine⟨by omega,?_,?_⟩
  ·rw[List.filter_eq_self]
   intro y hy
   obtain⟨k,hk,rfl⟩:=List.getElem_of_mem hy
   rw[List.length_take]at hk
   rw[List.getElem_take]
   have:=List.not_of_lt_findIdx (p:=(· == x)) (xs:=l) (i:=k) (show k<List.findIdx (· == x) l by rw[show List.findIdx (· == x) l=l.idxOf x from rfl];omega)
   simpa using this
  ·rw[←hi,List.getElem?_eq_getElem h1,List.getElem_idxOf h1]
 ·omega
theorem E8 (T:World) (h:Hp) (o:Ow) (t:Tg) (v:Value) (l:List Cm) (bx:Nat) (x:Cm) (s:Qq o t h v l) (d:Q3 o h) (hb:ZK o h bx (.cells x.C.toArray 49)) (hl:l.length≤4611686018427387904) :
  Zc Tryz.prog T 138 #[v,Nz bx] h fun v' h'=>Qq o t h' v' (l.filter fun y=>decide (y≠x))∧Kp (fun u=>u=t) o h o h':=by
 have ts:Ts Qc.C 5 h v l:=⟨s.sl⟩
 obtain⟨p,c,rfl,YL⟩:=Ju ts
 refine Zc.Zh (args:=[_,_]) Tryz.func138 rfl rfl rfl rfl ?_
 unfold Nz U6
 simp -implicitDefEqProofs only[go_sem,↓reduceIte]
 refine (L1 T h _ l bx x ts hb.2 hl).use ?_
 rintro _ h1 ⟨rfl,b1⟩
 have k1:Kp (fun u=>u=t) o h o h1:=Kp.Lf d b1 _
 by_cases hm:x∈l
 case neg=>
  have e:Vq l x = -1:=by unfold Vq;rw[if_neg hm]
  have e2:(l.filter fun y=>decide (y≠x))=l:=by
   rw[List.filter_eq_self];intro y hy;simpa using fun q=>hm (by rw[←q];exact hy)
  simp -implicitDefEqProofs only[go_sem,↓reduceIte,e,e2]
  exact⟨Qq.Zd (S:=fun _=>False) s (Kp.Lf d b1 _) id,k1⟩
 obtain⟨i0,Tc⟩:∃i:Nat,Vq l x=i:=⟨l.idxOf x,by unfold Vq;rw[if_pos hm]⟩
 obtain⟨hi,hf,hx⟩:=E7 Tc
 rcases s with⟨⟨q,h1'⟩,h2',h3'⟩|⟨b,off,cap,pre,spare,o1,hv,o3,o4,o5,o6,o7⟩
 ·omega
 simp only[Value.slice.injEq]at hv
 obtain⟨rfl,_,rfl⟩:=hv
 have i1:¬((i0:Nat):Int) = -1:=by omega
 simp -implicitDefEqProofs only[go_sem,↓reduceIte,Tc,i1]
 obtain⟨q,hq⟩:∃q:Cm→Bool,q=fun y=>decide ¬y=x:=⟨_,rfl⟩
 have hq':(fun y=>decide (y≠x))=q:=by rw[hq]
 have hqx:∀y,q y=decide ¬y=x:=fun y=>by rw[hq]
 rw[hq']at hf
 rw[←hq]
 have DR:l[i0]=x:=by rw[List.getElem?_eq_getElem hi]at hx;exact Option.some.inj hx
 have sl:l.length≤c:=o7
 have el:∀L:List Cm,(Zu Qc.C L).length=L.length*5:=fun L=>Jl (n:=5) PJ L
 refine VS.ZV (fun F g=>F 0=.slice (some ⟨b,off,none⟩) l.length c∧F 1=Nz bx∧Kp (fun u=>u=t) o h o g∧∃(i j:Nat) (L:List Cm),F 5=.int .i64 i∧F 6=.int .i64 j∧j≤l.length∧i<j∧L.length=l.length∧L.take i=(l.take j).filter q∧L.drop j=l.drop j∧i=((l.take j).filter q).length ∧
   g[b]? = some (.cells (pre++(Zu Qc.C L++spare)).toArray 49 (0,0)))
  (fun F _=>l.length-(vi (F 6)).toNat) rfl ⟨rfl,rfl,k1,i0,i0+1,l,rfl,?_,by omega,by omega,rfl,?_,rfl,?_,b1.get (Za o3) o3⟩ ?_
 ·show Value.int .i64 _=_
  congr 1
 ·rw[WM hi,hf,DR,hqx,if_neg (by simp),List.append_nil]
 ·rw[WM hi,hf,DR,hqx,if_neg (by simp),List.append_nil,List.length_take];omega
 rintro F g ⟨f0,f1,kg,i,j,L,f5,f6,hj,gK,hL,uP,hLj,G9,gb⟩
 unfold Nz U6 at f1
 simp only[List.map]at f1
 have gl:=Za gb
 by_cases ZA:j<l.length
 ·have ZI:(j:Int)<l.length:=by omega
  have hjL:L[j]? = l[j]?:=by
   have:=congrArg (fun z=>z[0]?) hLj
   simpa using this
  have D3:j<L.length:=by omega
  have hjE:L[j]=l[j]:=by
   rw[List.getElem?_eq_getElem D3,List.getElem?_eq_getElem ZA]at hjL
   exact Option.some.inj hjL
  have ow:Ys o t 49 5 g (.slice (some ⟨b,off,none⟩) L.length c) L.length (Zu Qc.C L):=.inr ⟨b,off,c,pre,spare,o1,rfl,gb,o4,el L,by rw[hL];exact o6,by omega⟩
  obtain⟨p2,c2,lu,Ix⟩:=Ju (⟨ow.sl⟩:Ts Qc.C 5 g _ L)
  obtain⟨bb,oo,jO,_,hr⟩:=Ix (by intro e;rw[e]at D3;simp at D3)
  subst jO
  simp only[Value.slice.injEq,Option.some.injEq,Addr.mk.injEq]at lu
  obtain⟨⟨rfl,rfl,_⟩,_,rfl⟩:=lu
  have r1:rd g ⟨b,off+j*5,none⟩ 5=some (l[j]).C:=by rw[hr j D3,hjE]
  simp -implicitDefEqProofs only[go_sem,↓reduceIte,f0,f1,f5,f6,ZI,r1]
  have bxg:=hb.Zd kg
  have bxl:bx≠g.size:=by have:=Za bxg.2;omega
  refine (I8 T _ bx x l[j] (by rw[Zq (Za bxg.2)];exact bxg.2)).use ?_
  rintro _ g1 ⟨rfl,b1'⟩
  have bp:Zf g.size g g1:=(Zf.push (Nat.le_refl _) _).trans (b1'.mono (by simp))
  have kg1:Kp (fun u=>u=t) o h o g1:=kg.Z7 bp
  have gb1:=bp.get gl gb
  have Zmy:g1[g.size]? = some (.cells (l[j]).C.toArray 49):=b1'.get (by simp) Zb
  have yr:rd g1 ⟨g.size,0,none⟩ 5=some (l[j]).C:=Zo Zmy rfl
  have fs:=WM ZA q
  have hd1:∀L':List Cm,L'.drop j=l.drop j→L'.drop (j+1)=l.drop (j+1):=fun L' h=>by
   rw[←List.drop_drop,←List.drop_drop,h]
  by_cases hxj:l[j]=x
  ·have fs':(l.take (j+1)).filter q=(l.take j).filter q:=by rw[fs,hqx,if_neg (by simp[hxj]),List.append_nil]
   simp -implicitDefEqProofs only[go_sem,↓reduceIte,hxj,f0,f1,f5,f6]
   refine⟨⟨f0,f1,kg1,i,j+1,L,f5,rfl,ZA,by omega,hL,by rw[fs'];exact uP,hd1 L hLj,by rw[fs'];exact G9,gb1⟩,?_⟩
   simp only[vi,Zj,↓reduceIte,f6];omega
  ·have fs':(l.take (j+1)).filter q=(l.take j).filter q++[l[j]]:=by rw[fs,hqx,if_pos (by simp[hxj])]
   have i0':(0:Int)≤i:=by omega
   have i1':(i:Int)<l.length:=by omega
   have hiL:i<L.length:=by omega
   have w1:=ZP gb1 (off+i*5) (l[j]).C
   have eL:Ym (pre++(Zu Qc.C L++spare)) (off+i*5) (l[j]).C=pre++(Zu Qc.C (L.set i l[j])++spare):=by
    have e1:Zu Qc.C L=(Zu Qc.C L).take (i*5)++(((Zu Qc.C L).drop (i*5)).take 5++(Zu Qc.C L).drop ((i+1)*5)):=by
     have:(Zu Qc.C L).drop ((i+1)*5)=((Zu Qc.C L).drop (i*5)).drop 5:=by rw[List.drop_drop];congr 1;omega
     rw[this,List.take_append_drop,List.take_append_drop]
    have hle:(i+1)*5≤(Zu Qc.C L).length:=by rw[el];omega
    rw[mH PJ L i hiL]
    conv=>lhs;rw[e1]
    have e2:pre++(((Zu Qc.C L).take (i*5)++(((Zu Qc.C L).drop (i*5)).take 5++(Zu Qc.C L).drop ((i+1)*5)))++spare)=(pre++(Zu Qc.C L).take (i*5))++(((Zu Qc.C L).drop (i*5)).take 5++((Zu Qc.C L).drop ((i+1)*5)++spare)):=by simp only[List.append_assoc]
    rw[e2,Wf (by rw[List.length_append,o4,List.length_take];omega) (by rw[List.length_take,List.length_drop,PJ];omega)]
    simp only[List.append_assoc]
   rw[eL,if_pos ⟨by rw[List.length_append,List.length_append,o4,el,PJ];omega,mF _⟩]at w1
   simp -implicitDefEqProofs only[go_sem,↓reduceIte,hxj,f0,f1,f5,f6,yr,i0',i1',w1]
   refine⟨⟨f0,f1,kg1.set o1 rfl _,i+1,j+1,L.set i l[j],rfl,rfl,ZA,by omega,by rw[List.length_set,hL],?_,?_,?_,Zt gb1⟩,?_⟩
   ·rw[Ye _ i (by rw[List.length_set];exact hiL),List.take_set_of_le (Nat.le_refl _),List.getElem_set_self,fs',←uP]
   ·refine hd1 _ ?_
    rw[←hLj,List.drop_set_of_lt (by omega)]
   ·rw[fs',List.length_append,←G9];rfl
   ·simp only[vi,Zj,↓reduceIte,f6];omega
 ·have YF:¬(j:Int)<l.length:=by omega
  obtain rfl:j=l.length:=by omega
  rw[List.take_length]at uP G9
  have hiL:i≤L.length:=by omega
  have vf:g[b]? = some (.cells ((pre++Zu Qc.C (L.take i))++(Zu Qc.C (L.drop i)++spare)).toArray 49 (0,0)):=by
   rw[←Sn PJ L i hiL,←Vr PJ L i hiL]
   have:(pre++(Zu Qc.C L).take (i*5))++((Zu Qc.C L).drop (i*5)++spare)=pre++(Zu Qc.C L++spare):=by
    rw[List.append_assoc,←List.append_assoc (List.take _ _),List.take_append_drop]
   rw[this];exact gb
  have tl:(Zu Qc.C (L.take i)).length=i*5:=by rw[el,List.length_take,Nat.min_eq_left hiL]
  simp -implicitDefEqProofs only[go_sem,↓reduceIte,f0,f5,f6,YF]
  refine Oi (E:=49) (n:=5) (k:=l.length-i) FL jX rfl rfl vf (by rw[List.length_append,o4,tl]) (by rw[el,List.length_drop,hL]) ?_
  intro new BV
  have i2:(i:Int)≤c:=by omega
  simp -implicitDefEqProofs only[go_sem,↓reduceIte,i2,f0,f5]
  have e:(Zu Qc.C (L.take i))=Zu Qc.C (l.filter q):=by rw[uP]
  refine⟨.inr ⟨b,off,c,pre,new++spare,o1,by rw[←G9],?_,o4,el _,?_,by omega⟩,kg.set o1 rfl _⟩
  ·rw[Zt vf,←e,List.append_assoc]
  ·rw[List.length_append,BV,el,List.length_drop,o6,hL,←G9,←Nat.add_mul];congr 1;omega
@[go_sem] theorem Zmz (x:Vt):Yo [some .i64,some .i64,some .i64,some .i64,some .i64,some .i64,some .i64,some .i64] (Zm x)=true:=rfl
@[go_sem] theorem ZmA (x y:Vt):leq (Zm x) (Zm y)=decide (x=y):=by
 obtain⟨a,⟨b,c⟩,d,e,f,g,k⟩:=x
 obtain⟨a',⟨b',c'⟩,d',e',f',g',k'⟩:=y
 unfold Zm
 rw[Bool.eq_iff_iff]
 simp[leq,ceq,Vt.mk.injEq,and_assoc]
@[go_sem] theorem ZhH (x:XL):Yo [some .i64,some .i64] (X1 x)=true:=rfl
@[go_sem] theorem ZhI (x y:XL):leq (X1 x) (X1 y)=decide (x=y):=by
 obtain⟨a,b⟩:=x
 obtain⟨a',b'⟩:=y
 unfold X1
 rw[Bool.eq_iff_iff]
 simp[leq,ceq,XL.mk.injEq]
@[go_sem] theorem Zd8 (x:Vt):(Zm x).length=8:=rfl
theorem L4 {h:Hp} {v:Value} {l:List Vt} (s:Ts Zm 8 h v l):∃p c,v=.slice p l.length c∧(l≠[]→∃b o,p=some ⟨b,o,none⟩∧b<h.size∧∀i (hi:i<l.length),rd h ⟨b,o+i*8,none⟩ 8=some (Zm l[i])):=by
 obtain⟨p,c,hv,hh⟩:=s.open Zd8 (by decide)
 refine⟨p,c,hv,fun Yq=>?_⟩
 obtain⟨b,o,h1,h2,h3⟩:=hh Yq
 exact⟨b,o,h1,h2,fun i hi=>(h3 i hi).rd (by simp[Zm]) rfl⟩
theorem Ae (T:World) (h:Hp) (v:Value) (l:List Vt) (x:Vt) (s:Ts Zm 8 h v l) (hl:l.length≤4611686018427387904) :
  Zc Tryz.prog T 141 #[v,.agg (Zm x).toArray] h fun v' h'=>(∃i:Int,v'=.int .i64 i∧(0≤i↔x∈l))∧Zf h.size h h':=by
 obtain⟨p,c,rfl,YL⟩:=L4 s
 refine Zc.Zh (args:=[_,_]) Tryz.func141 rfl rfl rfl rfl ?_
 simp -implicitDefEqProofs only[go_sem,↓reduceIte]
 obtain⟨h1,Yv⟩:=Zy (h.push (.cells (Zm x).toArray 146):Hp)
 have b1:Zf h.size h h1:=by rw[Yv];exact Zf.push (Nat.le_refl _) _
 have x1:h1[h.size]? = some (.cells (Zm x).toArray 146):=by rw[Yv];exact Zb
 rw[←Yv]
 clear Yv
 refine VS.ZV (fun F g=>g=h1∧F 0=.slice p l.length c∧F 3=.pointer (some ⟨h.size,0,none⟩)∧F 7=.int .i64 l.length∧∃i:Nat,i≤l.length∧F 8=.int .i64 i∧∀j (hj:j<l.length),j<i→l[j]≠x)
  (fun F _=>l.length-(vi (F 8)).toNat) rfl ⟨rfl,rfl,rfl,rfl,0,by omega,rfl,fun j hj q=>by omega⟩ ?_
 rintro F g ⟨rfl,f0,f3,f7,i,hi,f8,YU⟩
 by_cases ZA:i<l.length
 ·have ZI:(i:Int)<l.length:=by omega
  obtain⟨bb,oo,rfl,UX,Ge⟩:=YL (by intro e;rw[e]at ZA;simp at ZA)
  have r1:rd g ⟨bb,oo+i*8,none⟩ 8=some (Zm l[i]):=by rw[JH b1 (by exact UX)];exact Ge i ZA
  have r0:rd g ⟨h.size,0,none⟩ 8=some (Zm x):=Zo x1 rfl
  simp -implicitDefEqProofs only[go_sem,↓reduceIte,f0,f3,f7,f8,ZI]
  refine VS.q mixed (by kernel_rfl) ?_
  simp -implicitDefEqProofs only[go_sem,↓reduceIte,f0,f3,f7,f8,ZI,r1,r0]
  by_cases q:l[i]=x
  ·rw[q]
   simp -implicitDefEqProofs only[go_sem,↓reduceIte,b1]
   exact⟨_,rfl,fun _=>q▸List.getElem_mem ZA,fun _=>by omega⟩
  ·have q':¬x=l[i]:=fun e=>q e.symm
   simp -implicitDefEqProofs only[go_sem,↓reduceIte,q',f0,f3,f7,f8]
   refine⟨⟨rfl,f0,f3,f7,i+1,ZA,rfl,fun j hj U8=>?_⟩,?_⟩
   ·by_cases e:j=i
    ·subst e;exact q
    ·exact YU j hj (by omega)
   ·simp only[vi,Zj,↓reduceIte,f8];omega
 ·have YF:¬(i:Int)<l.length:=by omega
  have hx:x ∉ l:=fun hm=>by obtain⟨j,hj,he⟩:=List.getElem_of_mem hm;exact YU j hj (by omega) he
  simp -implicitDefEqProofs only[go_sem,↓reduceIte,f7,f8,YF,b1,hx]
  exact⟨-1,rfl,fun q=>by omega,fun q=>q.elim⟩
theorem Ih (T:World) (h:Hp) (v:Value) (l:List Vt) (x:Vt) (s:Ts Zm 8 h v l) (hl:l.length≤4611686018427387904) :
  Zc Tryz.prog T 116 #[v,.agg (Zm x).toArray] h fun v' h'=>v'=.bool (decide (x∈l))∧Zf h.size h h':=by
 obtain⟨p,c,rfl,YL⟩:=L4 s
 refine Zc.Zh (args:=[_,_]) Tryz.func116 rfl rfl rfl rfl ?_
 simp -implicitDefEqProofs only[go_sem,↓reduceIte]
 refine (Ae T _ _ l x (s.Z7 ((Zf.refl _ _).add _)) hl).use ?_
 rintro _ h2 ⟨⟨i,rfl,hi⟩,b2⟩
 have b:Zf h.size h h2:=((Zf.refl _ _).add _).trans (b2.mono (by simp))
 simp -implicitDefEqProofs only[go_sem,↓reduceIte,hi,b]
theorem PM (T:World) (h:Hp) (a b:XL):Zc Tryz.prog T 100 #[.agg (X1 a).toArray,.agg (X1 b).toArray] h fun v' h'=>v'=.bool (decide (below b a))∧Zf h.size h h':=by
 refine Zc.Zh (args:=[_,_]) Tryz.func100 rfl rfl rfl rfl ?_
 unfold X1
 by_cases q1:b.r<a.r
 ·have e:below b a:=.inl q1
  simp -implicitDefEqProofs only[go_sem,↓reduceIte,q1,e]
  (repeat' (first|exact Zf.refl _ _|assumption|refine Zf.add ?_ _|refine Zf.Zk ?_ (by first|omega|(simp;omega)) _|refine Zf.trans (by assumption) ?_))
 ·by_cases q2:a.r=b.r
  ·by_cases q3:b.n<a.n
   ·have e:below b a:=.inr ⟨q2.symm,q3⟩
    simp -implicitDefEqProofs only[go_sem,↓reduceIte,q1,q2,q3,e]
    (repeat' (first|exact Zf.refl _ _|assumption|refine Zf.add ?_ _|refine Zf.Zk ?_ (by first|omega|(simp;omega)) _|refine Zf.trans (by assumption) ?_))
   ·have e:¬below b a:=fun h=>by rcases h with h|⟨_,h⟩<;>omega
    simp -implicitDefEqProofs only[go_sem,↓reduceIte,q1,q2,q3,e]
    (repeat' (first|exact Zf.refl _ _|assumption|refine Zf.add ?_ _|refine Zf.Zk ?_ (by first|omega|(simp;omega)) _|refine Zf.trans (by assumption) ?_))
  ·have e:¬below b a:=fun h=>by rcases h with h|⟨h,_⟩<;>omega
   simp -implicitDefEqProofs only[go_sem,↓reduceIte,q1,q2,e]
   (repeat' (first|exact Zf.refl _ _|assumption|refine Zf.add ?_ _|refine Zf.Zk ?_ (by first|omega|(simp;omega)) _|refine Zf.trans (by assumption) ?_))
theorem Mr (T:World) (h:Hp) (n:Nat) (hn:n≤1000000000000):Zc Tryz.prog T 113 #[.int .i64 n] h fun v' h'=>v'=.bool (decide (5<2*n))∧h'=h:=by
 refine Zc.Zh (args:=[_]) Tryz.func113 rfl rfl rfl rfl ?_
 have e:((5:Int)<2*(n:Int))=(5<2*n):=by apply propext;omega
 simp -implicitDefEqProofs only[go_sem,↓reduceIte,e]
theorem Qq.ts {o:Ow} {t:Tg} {h:Hp} {v:Value} {l:List Cm} (s:Qq o t h v l):Ts Qc.C 5 h v l:=⟨Ys.sl s⟩
theorem OE {T:World} {K:Value→Hp→Prop} {ty:TypeId} {o:Ow} {t:Tg} {h:Hp} {v:Value} {l:List Cm} {x:Cm} {bx:Nat} {cb:Array Bool} (s:Qq o t h v l) (d:Q3 o h) (hb:h[bx]? = some (.cells x.C.toArray 49)) (hr:l.length≤1000000000000)
  (H:∀p c o' h',Qq o' t h' (.slice p (l.length+1) c) (l++[x])→Kp (fun u=>u=t) o h o' h'→K (.slice p (l.length+1) c) h') :
  Tj Tryz.prog T .append #[37,37] ty cb [v,.slice (some ⟨bx,0,none⟩) 1 1] K h:=by
 have src:Sl 5 h (.slice (some ⟨bx,0,none⟩) 1 1) 1 x.C:=⟨_,1,rfl,rfl,fun _=>⟨bx,0,rfl,fun i hi=>by
  rw[Zg hb,Yi,Nat.zero_add];exact List.getElem?_eq_getElem hi⟩⟩
 refine XQ (E:=49) (n:=5) (bytes:=40) (k:=1) FL Tryz.underlying37 xp jX rfl Zcl s d src (mF x) (by omega) (by omega) ?_
 intro v' o' h' w k _
 obtain⟨p,c,rfl,_⟩:=w.isSlice
 refine H p c o' h' ?_ k
 unfold Qq
 rw[Yc,QU,List.length_append]
 exact w
def yX (i:Nat) (t:Tg):Prop:=t=.node i∨t=.queue i
theorem mI (T:World) (h:Hp) (o:Ow) (wb i nb:Nat) (a:NA) (n:Nd) (x:Cm) (d:Q3 o h) (N:ZH o h wb i nb a n) (hq:n.queue.length≤1000000000000) (hl:n.log.length≤1000000000000) :
  Zc Tryz.prog T 75 #[Zn nb,Wr x] h fun v' h'=>∃o' a',Kp (yX i) o h o' h'∧ZH o' h' wb i nb a' (add n x):=by
 have WS:=Za N.ZD.2
 have R:=Zx N.ZD.2 N.pt.store.len
 refine Zc.Zh (args:=[_,_]) Tryz.func75 rfl rfl rfl rfl ?_
 unfold Zn Wr
 have e1:nb≠h.size:=by omega
 simp -implicitDefEqProofs only[go_sem,↓reduceIte]
 obtain⟨h1,Yv⟩:=Zy (h.push (.cells x.C.toArray 49):Hp)
 have k1:Kp Qe o h o h1:=by rw[Yv];exact ZW d _
 have x1:ZK o h1 h.size (.cells x.C.toArray 49):=⟨d _ (Nat.le_refl _),by rw[Yv];exact Zb⟩
 rw[←Yv]
 have N1:=N.still k1
 clear Yv
 have R1:=Zx N1.ZD.2 N1.pt.store.len
 have Jv:=Za N1.ZD.2
 have hs1:=Za x1.2
 have r1:rd h1 ⟨h.size,0,none⟩ 5=some x.C:=Zo x1.2 rfl
 refine VS.z (h1.size) [13] (.p 0 (.p 1 (.p 2 (.q 3 (.q 4 (.s 5 (.p 6 (.p 7 (.p 8 (.p 9 (.p 10 (.q 11 (.q 12 (.w 13 (.p 14 (.p 15 .nil)))))))))))))))) mixed (by kernel_rfl) ?_
 simp -implicitDefEqProofs only[go_sem,↓reduceIte,R1.queue,Jv,r1,hs1]
 refine (WL T h1 _ n.queue x N1.pt.queue.ts (by omega)).use ?_
 rintro _ h2 ⟨rfl,b2⟩
 by_cases q1:x∈n.queue
 ·have e:add n x=n:=by unfold add;rw[if_pos (.inl q1)]
  simp -implicitDefEqProofs only[go_sem,↓reduceIte,q1,b2,e]
  exact⟨o,a,(ZC k1).Z7 b2,N1.still (ZB k1.ZU b2)⟩
 simp -implicitDefEqProofs only[go_sem,↓reduceIte,q1,b2,R1.log,Jv,r1,hs1]
 have k2:=ZB k1.ZU b2
 refine (WL T h2 _ n.log x (N1.still k2).pt.log.ts (by omega)).use ?_
 rintro _ h3 ⟨rfl,b3⟩
 have vg:Zf h1.size h1 h3:=b2.trans (b3.mono b2.size)
 have k3:=ZB k1.ZU vg
 by_cases q2:x∈n.log
 ·have e:add n x=n:=by unfold add;rw[if_pos (.inr q2)]
  simp -implicitDefEqProofs only[go_sem,↓reduceIte,q2,vg,e]
  exact⟨o,a,(ZC k1).Z7 vg,N1.still k3⟩
 have e:add n x = { n with queue:=n.queue++[x] }:=by unfold add;rw[if_neg (fun q=>q.elim q1 q2)]
 simp -implicitDefEqProofs only[go_sem,↓reduceIte,q2,vg,e]
 have N3:=N1.still k3
 have x3:=x1.Zd k3
 have R3:=Zx N3.ZD.2 N3.pt.store.len
 have Rl:=Za N3.ZD.2
 have hs3:=Za x3.2
 have r3:rd h3 ⟨h.size,0,none⟩ 5=some x.C:=Zo x3.2 rfl
 refine VS.z (h3.size) [7,10] (.p 0 (.p 1 (.p 2 (.p 3 (.q 4 (.q 5 (.s 6 (.w 7 (.p 8 (.p 9 (.w 10 .nil))))))))))) mixed (by kernel_rfl) ?_
 simp -implicitDefEqProofs only[go_sem,↓reduceIte,R3.queue,Rl,r3,hs3]
 have k4:=ZW k3.ZU (.cells x.C.toArray 49)
 have N4:=N3.still k4
 refine OE (l:=n.queue) N4.pt.queue k4.ZU Zb hq ?_
 intro p c o5 h5 w5 k5
 have b5:=N4.ZD.Zd k5 (by intro e;cases e)
 have W5:=YI b5.2 N4.pt.store.len
 have w:=W5.queue (.slice p (n.queue.length+1) c) rfl
 simp -implicitDefEqProofs only[go_sem,↓reduceIte,w]
 exact⟨o5,_,(((ZC k1).Z7 vg).push _).trans (k5.mono fun u q=>.inr q) |>.set b5.1 (.inl rfl) _,(N4.pt.I5 k5 w5).put k5.ZU b5⟩
def Qr (i:Nat) (t:Tg):Prop:=t=.world∨t=.told∨t=.node i∨t=.known i∨t=.log i∨t=.queue i∨t=.waiting i
theorem mJ {β:Type}:∀(l:List (Int × β)) (ks:List Int),ks.Nodup→(∀k∈ks,(Y9 l k).isSome=true)→ks.length≤l.length:=by
 intro l
 induction l with
 | nil=>
  intro ks _ h
  cases ks with
  | nil=>simp
  | cons k ks=>have:=h k (by simp);simp[Y9]at this
 | cons x l ih=>
  intro ks hn h
  obtain⟨a,v⟩:=x
  have h1:(ks.erase a).length≤l.length:=ih _ (hn.erase a) fun k hk=>by
   have RP:=(List.Nodup.mem_erase_iff hn).1 hk
   have:=h k RP.2
   unfold Y9 at this
   rw[if_neg (fun e=>RP.1 e.symm)]at this
   exact this
  have h2:ks.length≤(ks.erase a).length+1:=by
   rw[List.length_erase];split<;>omega
  simp only[List.length_cons];omega
theorem E9 {β:Type} (l:List (Int × β)) (a m:Nat) (h:∀j,j<m→(Y9 l ((a+j:Nat):Int)).isSome=true):m≤l.length:=by
 have:=mJ l ((List.range m).map fun j=>((a+j:Nat):Int)) ?_ ?_
 ·simpa using this
 ·rw[List.nodup_iff_pairwise_ne,List.pairwise_map]
  exact (List.nodup_range (n:=m)).imp fun {x y} vj he=>vj (by omega)
 ·intro k hk
  simp only[List.mem_map,List.mem_range]at hk
  obtain⟨j,hj,rfl⟩:=hk
  exact h j hj
theorem aY (T:World) (h:Hp) (cs:List Value) (s:PI cs) (x:Cm):Zc Tryz.prog T 28 #[.agg cs.toArray,Wr x] h fun v' h'=>v'=.tuple #[.agg (GC cs x).toArray,.agg #[.int .i64 (Ri cs x),.int .i64 (LU cs x)],.int .i64 (PB cs x)]∧Zf h.size h h':=by
 refine (Bv T h cs x.k x.c x.s x.n x.v s.fit s.num s.yes).mono ?_
 rintro v' h' ⟨H,b⟩
 refine⟨?_,b⟩
 rw[H]
 unfold doL GC Ri LU PB Vm
 by_cases e:Ni cs x.k x.c x.s x.n x.v=0
 ·rw[if_pos e,if_pos e,if_pos e,if_pos e,e]
 ·rw[if_neg e,if_neg e,if_neg e,if_neg e]
theorem PI.mK {cs:List Value} (h:Yo XT cs=true):PI cs:=⟨h,BR h,EM h⟩
theorem PI.do {cs:List Value} (s:PI cs) (x:Cm):PI (GC cs x):=by
 obtain⟨D,a,b,h1,h2,_⟩:=rH s.fit x
 refine PI.mK ?_
 unfold doL at h1
 unfold GC PB Vm
 by_cases e:Ni cs x.k x.c x.s x.n x.v=0
 ·rw[if_pos e]at h1 ⊢
  simp only[List.cons.injEq,Value.agg.injEq,Array.mk.injEq]at h1
  rw[h1.1];exact h2
 ·rw[if_neg e]at h1 ⊢
  simp only[List.cons.injEq,Value.agg.injEq,Array.mk.injEq]at h1
  rw[h1.1];exact h2
theorem NB {T:World} {K:Value→Hp→Prop} {ty:TypeId} {o:Ow} {t:Tg} {h:Hp} {v:Value} {l:List TS} {x:TS} {bx:Nat} {cb:Array Bool} (s:Ys o t 42 5 h v l.length (Zu LZ l)) (d:Q3 o h) (hb:h[bx]? = some (.cells (LZ x).toArray 42)) (hr:l.length≤1000000000000)
  (H:∀p c o' h',Ys o' t 42 5 h' (.slice p (l.length+1) c) (l++[x]).length (Zu LZ (l++[x]))→Kp (fun u=>u=t) o h o' h'→K (.slice p (l.length+1) c) h') :
  Tj Tryz.prog T .append #[31,31] ty cb [v,.slice (some ⟨bx,0,none⟩) 1 1] K h:=by
 have src:Sl 5 h (.slice (some ⟨bx,0,none⟩) 1 1) 1 (LZ x):=⟨_,1,rfl,rfl,fun _=>⟨bx,0,rfl,fun i hi=>by
  rw[Zg hb,Yi,Nat.zero_add];exact List.getElem?_eq_getElem hi⟩⟩
 refine XQ (E:=42) (n:=5) (bytes:=40) (k:=1) Zck Tryz.underlying31 Zje Zjg rfl Zjf s d src rfl (by omega) (by omega) ?_
 intro v' o' h' w k _
 obtain⟨p,c,rfl,_⟩:=w.isSlice
 refine H p c o' h' ?_ k
 rw[Yc,QU,List.length_append]
 exact w
theorem ZE.aZ {o o1:Ow} {h h1:Hp} {wb:Nat} {nb:Nat→Nat} {a:WA} {fl:List YY} {bad:Nat→Int} {told mL:List TS} {v:Value} (W:ZE o h wb nb a fl bad told) (k:Kp (fun t=>t=.told) o h o1 h1)
  (hv:Ys o1 .told 42 5 h1 v mL.length (Zu LZ mL)) {e:Option Hp} (w:e=some (h1.setIfInBounds wb (.cells (Y2 bad { a with told:=v }).toArray 97))) :
  ∃g,e=some g∧ZE o1 g wb nb { a with told:=v } fl bad mL∧Kp (fun t=>t=.world) o1 h1 o1 g:=by
 have b:=W.ZD.Zd k (by intro e;cases e)
 have kk:Kp (fun t=>t=.world) o1 h1 o1 (h1.setIfInBounds wb (.cells (Y2 bad { a with told:=v }).toArray 97)):=(Kp.refl k.ZU (fun t=>t=.world)).set b.1 rfl _
 exact⟨_,w,⟨⟨b.1,Zt b.2⟩,(W.nodes.Zd k (by intro e;cases e)).Zd kk (by intro e;cases e),(W.Zl.Zd k (by intro e;cases e)).Zd kk (by intro e;cases e),hv.Zd kk (by intro e;cases e)⟩,kk⟩
def bj:Option Value→Nat
 | some (.slice _ l _)=>l
 | _=>0
set_option maxHeartbeats 1000000 in
theorem L5 (T:World) (h:Hp) (o:Ow) (wb i nb:Nat) (Z4:Nat→Nat) (a:NA) (n:Nd) (Yy:WA) (fl:List YY) (bad:Nat→Int) (told:List TS) (s:Int) (x:Cm) (d:Q3 o h)
  (N:ZH o h wb i nb a n) (W:ZE o h wb Z4 Yy fl bad told) (hk:n.known.length≤100000000000) (hl:n.log.length≤100000000000) (ht:told.length≤100000000000) (hq:n.queue.length≤1000000000000) (hw:n.waiting.length≤1000000000000) :
  Zc Tryz.prog T 114 #[Zn wb,Zn nb,.int .i64 s,Wr x] h fun v' h'=>∃o' a' Xl,Kp (Qr i) o h o' h'∧ZH o' h' wb i nb a' (Ui n s x).n∧ZE o' h' wb Z4 Xl fl bad (told++(Ui n s x).ts):=by
 have WS:=Za N.ZD.2
 have GG:=Za W.ZD.2
 refine Zc.Zh (args:=[_,_,_,_]) Tryz.func114 rfl rfl rfl rfl ?_
 unfold Zn Wr
 simp -implicitDefEqProofs only[go_sem,↓reduceIte]
 obtain⟨h1,Yv⟩:=Zy (h.push (.cells x.C.toArray 49):Hp)
 have k1:Kp Qe o h o h1:=by rw[Yv];exact ZW d _
 have x1:ZK o h1 h.size (.cells x.C.toArray 49):=⟨d _ (Nat.le_refl _),by rw[Yv];exact Zb⟩
 rw[←Yv]
 have N1:=N.still k1
 have W1:=W.still k1
 clear Yv
 have R1:=Zx N1.ZD.2 N1.pt.store.len
 have Jv:=Za N1.ZD.2
 have hs1:=Za x1.2
 have r1:rd h1 ⟨h.size,0,none⟩ 5=some x.C:=Zo x1.2 rfl
 refine VS.z (h1.size) [6] (.p 0 (.p 1 (.p 2 (.q 3 (.p 4 (.q 5 (.w 6 .nil))))))) mixed (by kernel_rfl) ?_
 simp -implicitDefEqProofs only[go_sem,↓reduceIte,R1.known,Jv,r1,hs1]
 have km:=XK (K:=fun _ _=>True) (x:=.agg x.C.toArray) (n:=s) Vp N1.pt.known.2 (P:=Tryz.prog)
 rw[XK Vp N1.pt.known.2]
 have k2:Kp (fun t=>t=.known i) o h1 o (h1.setIfInBounds a.known (Xg (ins (Ua Wr n.known) s (.agg x.C.toArray)))):=(Kp.refl k1.ZU (fun t=>t=.known i)).set N1.pt.known.1 rfl _
 have m2:J6 o (.known i) (h1.setIfInBounds a.known (Xg (ins (Ua Wr n.known) s (.agg x.C.toArray)))) a.known (Ua Wr (ins n.known s x)):=
  ⟨N1.pt.known.1,by rw[Zt N1.pt.known.2,Tv];rfl⟩
 have N2:ZH o (h1.setIfInBounds a.known (Xg (ins (Ua Wr n.known) s (.agg x.C.toArray)))) wb i nb a (Ud n s x):=⟨N1.ZD.Zd k2 (by intro e;cases e),N1.pt.fD k2 m2⟩
 have W2:=W1.Zd k2 (by rintro t rfl;simp[Tg.of])
 have K2:Kp (Qr i) o h o (h1.setIfInBounds a.known (Xg (ins (Ua Wr n.known) s (.agg x.C.toArray)))):=(ZC k1).trans (k2.mono fun t q=>.inr (.inr (.inr (.inl q))))
 generalize (h1.setIfInBounds a.known (Xg (ins (Ua Wr n.known) s (.agg x.C.toArray))))=h2 at *
 clear km
 unfold Ui
 obtain⟨L,hL⟩:=Zy ((Ud n s x).known.length)
 have hLb:L≤100000000001:=by
  rw[hL];unfold Ud;simp only[S7];split<;>omega
 obtain⟨n0,Iv⟩:=Zy (Ud n s x)
 rw[←Iv]at N2 hL ⊢
 rw[←hL]
 have hl0:n0.log.length≤100000000000:=by rw[Iv];exact hl
 have hq0:n0.queue.length≤1000000000000:=by rw[Iv];exact hq
 have hw0:n0.waiting.length≤1000000000000:=by rw[Iv];exact hw
 clear N1 W1 R1 Jv hs1 r1 k2 m2 N W hk hl hq hw Iv k1 x1
 simp -implicitDefEqProofs only[go_sem,↓reduceIte]
 refine VS.ZV (fun F g=>F 0=.pointer (some ⟨wb,0,none⟩)∧F 1=.pointer (some ⟨nb,0,none⟩)∧∃o' a' Xl m ts f j,Kp (Qr i) o h o' g∧ZH o' g wb i nb a' m∧ZE o' g wb Z4 Xl fl bad (told++ts)∧f+j=L+1∧m.known=n0.known∧m.log.length=n0.log.length+j ∧
   m.queue.length≤1000000000000∧m.waiting.length≤1000000000000∧ts.length≤j∧(∀j',j'<j→(Y9 n0.known ((n0.log.length+j':Nat):Int)).isSome=true)∧(YH (L+1) n0).1=(YH f m).1∧(YH (L+1) n0).2=ts++(YH f m).2)
  (fun F g=>n0.log.length+L+2-bj (hc g ⟨nb,11,none⟩)) rfl ⟨rfl,rfl,o,a,Yy,n0,[],L+1,0,K2,N2,by rw[List.append_nil];exact W2,rfl,rfl,rfl,hq0,hw0,Nat.le_refl _,fun j' h=>by omega,rfl,rfl⟩ ?_
 rintro F g ⟨f0,f1,o',a',Xl,m,ts,f,j,K,M,V,hf,ah,gX,hmq,hmw,hts,hjs,g1,g2⟩
 have R:=Zx M.ZD.2 M.pt.store.len
 have rU:=Za M.ZD.2
 obtain⟨lp,lc,Ii,hlc⟩:=Ys.isSlice M.pt.log
 have mu:bj (hc g ⟨nb,11,none⟩)=m.log.length:=by rw[R.log,Ii];rfl
 rw[mu]
 have R11:=R.log
 rw[Ii]at R11
 have lk:=fun (K:Value→Hp→Prop)=>Yn (K:=K) (n:=(m.log.length:Int)) (c:=true) Vp PH M.pt.known.2
 have WN:=fun (K:Value→Hp→Prop) (x:Obj)=>Yn (h:=g.push x) (K:=K) (n:=(m.log.length:Int)) (c:=true) Vp PH ((Zq (Za M.pt.known.2)).trans M.pt.known.2)
 rw[Xf]at lk
 simp only[Xf]at WN
 simp -implicitDefEqProofs only[go_sem,↓reduceIte,f0,f1]
 cases hx:Y9 m.known (m.log.length:Int) with
 | none=>
  rw[hx]at lk
  simp only[hx,Option.map_none,Option.getD_none,Option.isSome_none,↓reduceIte]at lk WN
  have e:f≠0→YH f m=(m,[]):=fun Yq=>by
   obtain⟨f',rfl⟩:∃f',f=f'+1:=⟨f-1,by omega⟩
   unfold YH;rw[hx]
  have e':YH f m=(m,[]):=by
   by_cases q:f=0
   ·subst q;rfl
   ·exact e q
  rw[e']at g1 g2
  refine VS.mono (N:=fun F' g'=>Zf g.size g g'∧F' 9=.bool false) ?_ ?_ (fun _ _ _ h=>h) (fun _ _ h=>h)
  ·refine VS.z (g.size) [9,14] (.p 0 (.p 1 (.p 2 (.q 3 (.p 4 (.p 5 (.p 6 (.q 7 (.p 8 (.or 9 (.p 10 (.p 11 (.p 12 (.s 13 (.w 14 (.p 15 .nil)))))) (.s 13 (.w 9 (.p 10 (.p 11 (.p 12 (.w 14 (.p 15 .nil))))))))))))))))) mixed (by kernel_rfl) ?_
   simp -implicitDefEqProofs only[go_sem,↓reduceIte,f0,f1,R.known,R11,rU,lk,WN]
   repeat' (first|exact Zf.refl _ _|exact Zf.push (Nat.le_refl _) _|refine And.intro ?_ ?_)
  ·rintro F' g' ⟨b,f9⟩
   simp -implicitDefEqProofs only[go_sem,↓reduceIte,f9]
   rw[g1,g2,List.append_nil]
   exact⟨o',a',Xl,K.Z7 b,M.still (ZB K.ZU b),V.still (ZB K.ZU b)⟩
 | some y=>
  rw[hx]at lk
  simp only[hx,Option.map_some,Option.getD_some,Option.isSome_some,↓reduceIte]at lk WN
  refine VS.mono (N:=fun F' g'=>Zf g.size g g'∧F' 0=.pointer (some ⟨wb,0,none⟩)∧F' 1=.pointer (some ⟨nb,0,none⟩)∧F' 9=.bool true∧F' 8=.pointer (some ⟨g.size,0,none⟩)∧g'[g.size]? = some (.cells y.C.toArray 49)) ?_ ?_ (fun _ _ _ h=>h) (fun _ _ h=>h)
  ·refine VS.z (g.size) [9,14] (.p 0 (.p 1 (.p 2 (.q 3 (.p 4 (.p 5 (.p 6 (.q 7 (.p 8 (.or 9 (.p 10 (.p 11 (.p 12 (.s 13 (.w 14 (.p 15 .nil)))))) (.s 13 (.w 9 (.p 10 (.p 11 (.p 12 (.w 14 (.p 15 .nil))))))))))))))))) mixed (by kernel_rfl) ?_
   simp -implicitDefEqProofs only[go_sem,↓reduceIte,f0,f1,R.known,R11,rU,lk,WN,Wr]
   have gp:∀x:Obj,(g.push x)[g.size]? = some x:=fun x=>Zb
   repeat' (first|exact Zf.refl _ _|exact Zf.push (Nat.le_refl _) _|exact gp _|refine And.intro ?_ ?_)
  ·rintro F2 g2 ⟨b2,f20,f21,f29,f28,x2⟩
   simp -implicitDefEqProofs only[go_sem,↓reduceIte,f29]
   have kb:=ZB K.ZU b2
   have M2:=M.still kb
   have V2:=V.still kb
   have bx2:ZK o' g2 g.size (.cells y.C.toArray 49):=⟨K.ZU _ (Nat.le_refl _),x2⟩
   have K2:=K.Z7 b2
   have SI:=rU
   clear R R11 lk WN rU mu
   have R2:=Zx M2.ZD.2 M2.pt.store.len
   have JA:=Za M2.ZD.2
   have hs2:=Za x2
   have r2:rd g2 ⟨g.size,0,none⟩ 5=some y.C:=Zo x2 rfl
   refine VS.z (g2.size) [7,10] (.p 0 (.p 1 (.p 2 (.p 3 (.q 4 (.q 5 (.s 6 (.w 7 (.p 8 (.p 9 (.w 10 .nil))))))))))) mixed (by kernel_rfl) ?_
   simp -implicitDefEqProofs only[go_sem,↓reduceIte,f20,f21,f28,R2.log,JA,hs2,r2]
   have k3:=ZW K2.ZU (.cells y.C.toArray 49)
   refine OE (l:=m.log) (M2.still k3).pt.log k3.ZU Zb (by omega) ?_
   intro p c o3 g3 w3 kk3
   have yZ:Kp (fun t=>t=.log i) o' g2 o3 g3:=(ZC k3).trans kk3
   have b3:=M2.ZD.Zd yZ (by intro e;cases e)
   have w:=(YI b3.2 M2.pt.store.len).log (.slice p (m.log.length+1) c) rfl
   simp -implicitDefEqProofs only[go_sem,↓reduceIte,w]
   have M4:=(M2.pt.rR yZ w3).put yZ.ZU b3
   have kn:Kp (fun t=>t=.node i) o3 g3 o3 (g3.setIfInBounds nb (Y4 { m with log:=m.log++[y] } { a' with log:=.slice p (m.log.length+1) c })):=(Kp.refl yZ.ZU (fun t=>t=.node i)).set b3.1 rfl _
   have V4:=(V2.Zd yZ (by rintro t rfl;simp[Tg.of])).Zd kn (by rintro t rfl;simp[Tg.of])
   have x4:=(bx2.Zd yZ).Zd kn
   have K4:Kp (Qr i) o h o3 (g3.setIfInBounds nb (Y4 { m with log:=m.log++[y] } { a' with log:=.slice p (m.log.length+1) c })):=
    (K2.trans (yZ.mono fun t q=>.inr (.inr (.inr (.inr (.inl q)))))).trans (kn.mono fun t q=>.inr (.inr (.inl q)))
   obtain⟨g4,PN⟩:=Zy (g3.setIfInBounds nb (Y4 m { a' with log:=.slice p (m.log.length+1) c }))
   rw[show Y4 { m with log:=m.log++[y] } { a' with log:=.slice p (m.log.length+1) c } = Y4 m { a' with log:=.slice p (m.log.length+1) c } from rfl,←PN]at M4 V4 x4 K4
   rw[←PN]
   clear PN kn
   have R4:=Zx M4.ZD.2 M4.pt.store.len
   have NX:=Za M4.ZD.2
   have hs4:=Za x4.2
   have r4:rd g4 ⟨g.size,0,none⟩ 5=some y.C:=Zo x4.2 rfl
   have call:=fun G=>aY T G m.store M4.pt.store y
   have R4s:rd g4 ⟨nb,12,none⟩ 40=some m.store:=R4.store
   have hD:=(M4.pt.store.do y)
   have hD0:GC ({ m with log:=m.log++[y] }:Nd).store y=GC m.store y:=rfl
   rw[hD0]at hD
   obtain⟨D,za⟩:=Zy (GC m.store y)
   obtain⟨E,hE⟩:=Zy (PB m.store y)
   obtain⟨c1,Uo⟩:=Zy (Ri m.store y)
   obtain⟨c2,Ix⟩:=Zy (LU m.store y)
   rw[←za]at hD
   rw[←za,←hE,←Uo,←Ix]at call
   have NC:=hD.len
   have DU:=hD.one
   unfold Wr at call
   have Ht:=ZM (zs:=Jp) (vs:=D) (by rw[NC];rfl)
   unfold Jp at Ht
   simp only[rep,List.cons_append,List.nil_append]at Ht
   have wA:∀(G:Hp) (k:Nat),G[k]? = some (.cells Jp.toArray 62)→wr G ⟨k,0,none⟩ D=some (G.setIfInBounds k (.cells D.toArray 62)):=fun G k hx=>by
    rw[ZP hx 0 D,ZM (by rw[NC];rfl),if_pos ⟨by rw[NC];simp[Jp,rep],DU⟩]
   have wB:∀(G:Hp) (k:Nat),G[k]? = some (.cells [.int .i64 0,.int .i64 0].toArray 40)→wr G ⟨k,0,none⟩ [.int .i64 c1,.int .i64 c2]=some (G.setIfInBounds k (.cells [.int .i64 c1,.int .i64 c2].toArray 40)):=fun G k hx=>by
    rw[ZP hx 0 _];rfl
   have gl:∀(G:Hp) (X Y:Obj),((G.push X).push Y)[G.size]? = some X:=fun G X Y=>by rw[Zq (by simp),Zb]
   have gs:∀(G:Hp) (k:Nat) (X Y:Obj),((G.setIfInBounds k X).push Y)[G.size]? = some Y:=fun G k X Y=>by
    have:=Zb (h:=G.setIfInBounds k X) (o:=Y);rwa [Array.size_setIfInBounds]at this
   have gl':=gs
   have gr:∀(G:Hp) (X Y:Obj),((G.push X).push Y)[G.size+1]? = some Y:=fun G X Y=>by
    have:=Zb (h:=G.push X) (o:=Y);rwa [Array.size_push]at this
   refine VS.mono (N:=fun F' g'=>Zf g4.size g4 g'∧F' 0=.pointer (some ⟨wb,0,none⟩)∧F' 1=.pointer (some ⟨nb,0,none⟩)∧F' 8=.pointer (some ⟨g.size,0,none⟩)∧∃A B,F' 10=.pointer (some ⟨A,0,none⟩)∧F' 11=.pointer (some ⟨B,0,none⟩)∧g4.size≤A∧g4.size≤B∧g'[A]? = some (.cells D.toArray 62)∧g'[B]? = some (.cells [.int .i64 c1,.int .i64 c2].toArray 40)) ?_ ?_ (fun _ _ _ h=>h) (fun _ _ h=>h)
   ·refine VS.z (g4.size) [5,12,13] (.p 0 (.p 1 (.p 2 (.q 3 (.q 4 (.or 5 (.p 6 (.p 7 (.p 8 (.p 9 (.or 10 (.s 11 (.w 12 (.w 13 (.p 14 .nil)))) (.s 11 (.s 10 (.w 12 (.w 13 (.p 14 .nil)))))))))) (.or 10 (.or 5 (.p 6 (.p 7 (.p 8 (.p 9 (.s 11 (.w 12 (.w 13 (.p 14 .nil)))))))) (.s 11 (.w 5 (.p 6 (.p 7 (.p 8 (.p 9 (.w 12 (.w 13 (.p 14 .nil)))))))))) (.s 11 (.or 5 (.p 6 (.p 7 (.p 8 (.p 9 (.s 10 (.w 12 (.w 13 (.p 14 .nil)))))))) (.s 10 (.w 5 (.p 6 (.p 7 (.p 8 (.p 9 (.w 12 (.w 13 (.p 14 .nil)))))))))))))))))) mixed (by kernel_rfl) ?_
    simp -implicitDefEqProofs only[go_sem,↓reduceIte,f20,f21,f28,R4s,NX,hs4,r4]
    repeat' (first|with_reducible exact Zf.refl _ _|with_reducible exact Zf.push (by omega) _|with_reducible refine And.intro ?_ ?_)
    all_goals first
     | (refine (call g4).use ?_
        rintro _ g5 ⟨rfl,b5⟩
        have s5:=b5.size
        simp -implicitDefEqProofs only[go_sem,↓reduceIte,b5,NC,DU,Ht]
        refine⟨⟨f20,f21,f28,_,_,rfl,rfl,s5,by omega,gl _ _ _,gr _ _ _⟩,⟨f20,f21,f28,_,_,rfl,rfl,by omega,s5,gr _ _ _,gl _ _ _⟩⟩)
     | (refine (call (g4.push (.cells _ 62))).use ?_
        rintro _ g5 ⟨rfl,b5⟩
        have s5:=b5.size
        rw[Array.size_push]at s5
        have B5:Zf g4.size g4 g5:=(Zf.push (Nat.le_refl _) _).trans (b5.mono (by simp))
        have xA:=b5.get (k:=g4.size) (by simp) Zb
        have V3:=wA _ _ xA
        have zA:=Za xA
        have gA:=Zt (o:=.cells D.toArray 62) xA
        simp -implicitDefEqProofs only[go_sem,↓reduceIte,B5,NC,DU,V3,zA]
        exact⟨f20,f21,f28,_,_,rfl,rfl,Nat.le_refl _,by omega,by rw[Zq (by simpa using zA)];exact gA,gs _ _ _ _⟩)
     | (refine (call (g4.push (.cells _ 40))).use ?_
        rintro _ g5 ⟨rfl,b5⟩
        have s5:=b5.size
        rw[Array.size_push]at s5
        have B5:Zf g4.size g4 g5:=(Zf.push (Nat.le_refl _) _).trans (b5.mono (by simp))
        have xB:=b5.get (k:=g4.size) (by simp) Zb
        have L6:=wB _ _ xB
        have zB:=Za xB
        have gB:=Zt (o:=.cells [.int .i64 c1,.int .i64 c2].toArray 40) xB
        simp -implicitDefEqProofs only[go_sem,↓reduceIte,B5,NC,DU,L6,Ht,zB]
        exact⟨f20,f21,f28,_,_,rfl,rfl,by omega,Nat.le_refl _,gl' _ _ _ _,by rw[Zq (by simpa using zB)];exact gB⟩)
     | (refine (call ((g4.push (.cells _ 62)).push (.cells _ 40))).use ?_
        rintro _ g5 ⟨rfl,b5⟩
        have s5:=b5.size
        rw[Array.size_push,Array.size_push]at s5
        have B5:Zf g4.size g4 g5:=((Zf.push (Nat.le_refl _) _).Yf (by simp) _).trans (b5.mono (by simp;omega))
        have xA:=b5.get (k:=g4.size) (by simp;omega) (gl _ _ _)
        have xB:=b5.get (k:=g4.size+1) (by simp) (gr _ _ _)
        have V3:=wA _ _ xA
        have zA:=Za xA
        have OF:=(Yg (o:=.cells D.toArray 62) (show g4.size≠g4.size+1 by omega)).trans xB
        have L6:=wB _ _ OF
        have zB:=Za OF
        simp -implicitDefEqProofs only[go_sem,↓reduceIte,B5,NC,DU,V3,zA,L6,zB]
        exact⟨f20,f21,f28,_,_,rfl,rfl,by omega,by omega,(Yg (by omega)).trans (Zt xA),Zt OF⟩)
     | (refine (call ((g4.push (.cells _ 40)).push (.cells _ 62))).use ?_
        rintro _ g5 ⟨rfl,b5⟩
        have s5:=b5.size
        rw[Array.size_push,Array.size_push]at s5
        have B5:Zf g4.size g4 g5:=((Zf.push (Nat.le_refl _) _).Yf (by simp) _).trans (b5.mono (by simp;omega))
        have xB:=b5.get (k:=g4.size) (by simp;omega) (gl _ _ _)
        have xA:=b5.get (k:=g4.size+1) (by simp) (gr _ _ _)
        have V3:=wA _ _ xA
        have zA:=Za xA
        have OF:=(Yg (o:=.cells D.toArray 62) (show g4.size+1≠g4.size by omega)).trans xB
        have L6:=wB _ _ OF
        have zB:=Za OF
        simp -implicitDefEqProofs only[go_sem,↓reduceIte,B5,NC,DU,V3,zA,L6,zB]
        exact⟨f20,f21,f28,_,_,rfl,rfl,by omega,by omega,(Yg (by omega)).trans (Zt xA),Zt OF⟩)
   ·rintro F5 g5 ⟨b5,f50,f51,f58,A,B,f5A,f5B,hA,hB,yA,yB⟩
    have I9:=ZB K4.ZU b5
    have M5:=M4.still I9
    have V5:=V4.still I9
    have x5:=x4.Zd I9
    have K5:=K4.Z7 b5
    have z5:=Za M5.ZD.2
    have rA:rd g5 ⟨A,0,none⟩ 40=some D:=Zo yA NC
    obtain⟨g6,w6,M6,k6⟩:=ZT.write (n:={ m with log:=m.log++[y],store:=D }) { M5.pt with store:=hD } K5.ZU M5.ZD ((YI M5.ZD.2 M5.pt.store.len).store D NC DU)
    have V6:=V5.Zd k6 (by rintro t rfl;simp[Tg.of])
    have x6:=x5.Zd k6
    have K6:Kp (Qr i) o h o3 g6:=K5.trans (k6.mono fun t q=>.inr (.inr (.inl q)))
    have xB6:=(show ZK o3 g5 B _ from⟨K4.ZU _ (by omega),yB⟩).Zd k6
    have R6:=Zx M6.ZD.2 NC
    have z6:=Za M6.ZD.2
    clear R4 R4s NX hs4 r4 R2 JA hs2 r2
    simp -implicitDefEqProofs only[go_sem,↓reduceIte,f50,f51,f58,f5A,f5B,rA,w6,NC,R6.queue,z5]
    refine (E8 T g6 o3 (.queue i) _ m.queue g.size y M6.pt.queue K6.ZU x6 (by omega)).use ?_
    rintro v7 g7 ⟨q7,k7⟩
    obtain⟨p7,c7,rfl,_⟩:=Ys.isSlice q7
    have b7:=M6.ZD.Zd k7 (by intro e;cases e)
    obtain⟨g8,w8,M8,k8⟩:=(M6.pt.I5 k7 q7).write k7.ZU b7 ((YI b7.2 NC).queue (.slice p7 _ c7) rfl)
    have z7:=Za b7.2
    have V8:=(V6.Zd k7 (by rintro t rfl;simp[Tg.of])).Zd k8 (by rintro t rfl;simp[Tg.of])
    have x8:=(x6.Zd k7).Zd k8
    have xB8:=(xB6.Zd k7).Zd k8
    have K8:Kp (Qr i) o h o3 g8:=(K6.trans (k7.mono fun t q=>.inr (.inr (.inr (.inr (.inr (.inl q))))))).trans (k8.mono fun t q=>.inr (.inr (.inl q)))
    have R8:=Zx M8.ZD.2 NC
    have z8:=Za M8.ZD.2
    simp -implicitDefEqProofs only[go_sem,↓reduceIte,f50,f51,f58,w8,z7,R8.waiting]
    refine (L1 T g8 _ m.waiting g.size y M8.pt.waiting.ts x8.2 (by omega)).use ?_
    rintro _ g9 ⟨rfl,b9⟩
    have kb9:=ZB K8.ZU b9
    have M9:=M8.still kb9
    have V9:=V8.still kb9
    have x9:=x8.Zd kb9
    have xB9:=xB8.Zd kb9
    have K9:=K8.Z7 b9
    have V0:∃f',f=f'+1:=⟨f-1,by
     have:f≠0:=fun q=>by
      subst q
      have hj:j=L+1:=by omega
      have:=E9 n0.known n0.log.length (L+2) fun j' hj'=>by
       by_cases q:j'<j
       ·exact hjs j' q
       ·have:j'=j:=by omega
        subst this
        rw[←gX,←ah,hx];rfl
      rw[←hL]at this
      omega
     omega⟩
    obtain⟨f',rfl⟩:=V0
    have lg:YH (f'+1) m=((YH f' (UQ m y)).1,VO m y++(YH f' (UQ m y)).2):=by
     rw[YH,hx]
    rw[lg]at g1 g2
    have Zea:∀j',j'<j+1→(Y9 n0.known ((n0.log.length+j':Nat):Int)).isSome=true:=fun j' hj'=>by
     by_cases q:j'<j
     ·exact hjs j' q
     ·have:j'=j:=by omega
      subst this
      rw[←gX,←ah,hx];rfl
    have qZ:(m.queue.filter fun z=>decide (z≠y)).length≤m.queue.length:=List.length_filter_le _ _
    have mono:∀(G:Hp) (nn:Nd) (aa:NA) (oo:Ow),ZH oo G wb i nb aa nn→nn.log.length=m.log.length+1→n0.log.length+L+2-bj (hc G ⟨nb,11,none⟩)<n0.log.length+L+2-m.log.length:=fun G nn aa oo H hh=>by
     have RR:=Zx H.ZD.2 H.pt.store.len
     obtain⟨lp,lc,Ii,hlc⟩:=Ys.isSlice H.pt.log
     have:bj (hc G ⟨nb,11,none⟩)=nn.log.length:=by rw[RR.log,Ii];rfl
     rw[this,hh]
     omega
    by_cases hy:y∈m.waiting
    case neg=>
     have e1:Vq m.waiting y = -1:=by unfold Vq;rw[if_neg hy]
     have e2:VO m y=[]:=by unfold VO;rw[if_neg hy]
     have e3:m.waiting.erase y=m.waiting:=List.erase_of_not_mem hy
     rw[e2]at g2
     have e4:UQ m y = { m with log:=m.log++[y],store:=D,queue:=m.queue.filter (fun z=>decide (z≠y)) }:=by unfold UQ;rw[e3,←za]
     rw[e4]at g1 g2
     rw[List.nil_append]at g2
     simp -implicitDefEqProofs only[go_sem,↓reduceIte,e1]
     unfold Y6
     refine⟨⟨f50,f51,o3,_,Xl,_,ts,f',j+1,K9,M9,V9,by omega,ah,by simp[gX];omega,by simp only;omega,hmw,by omega,Zea,g1,g2⟩,mono _ _ _ _ M9 (by simp)⟩
    have e1:0≤Vq m.waiting y:=(PK _ _).2 hy
    have e5:Vq m.waiting y=(m.waiting.idxOf y:Nat):=by unfold Vq;rw[if_pos hy]
    obtain⟨r,hr⟩:=Zy (m.waiting.idxOf y)
    have om:r<m.waiting.length:=by rw[hr];exact List.idxOf_lt_length_of_mem hy
    rw[←hr]at e5
    have e2:VO m y=[⟨m.me,y.c,y.s,Ri m.store y,LU m.store y⟩]:=by unfold VO;rw[if_pos hy]
    have e3:m.waiting.erase y=m.waiting.take r++m.waiting.drop (r+1):=by
     rw[List.erase_eq_eraseIdx_of_idxOf,List.eraseIdx_eq_take_drop_succ]
     exact hr.symm
    rw[e2]at g2
    have R9:=Zx M9.ZD.2 NC
    have z9:=Za M9.ZD.2
    simp -implicitDefEqProofs only[go_sem,↓reduceIte,e1,e5,f50,f51,f58,R9.waiting,z9]
    refine (EZ T g9 o3 (.waiting i) _ m.waiting.length r _ M9.pt.waiting K9.ZU (rT _) om (by omega)).use ?_
    rintro v10 zb ⟨q10,fF⟩
    have wl:(m.waiting.erase y).length=m.waiting.length-1:=by rw[e3,List.length_append,List.length_take,List.length_drop];omega
    have Q10:Qq o3 (.waiting i) zb v10 (m.waiting.erase y):=by
     unfold Qq
     rw[wl,e3,Yc,←Sn PJ _ _ (by omega),←Vr PJ _ _ (by omega)]
     exact q10
    obtain⟨p10,c10,rfl,_⟩:=Ys.isSlice Q10
    have b10:=M9.ZD.Zd fF (by intro e;cases e)
    obtain⟨oI,w11,M11,hO⟩:=(M9.pt.Ny fF Q10).write fF.ZU b10 ((YI b10.2 NC).waiting (.slice p10 _ c10) rfl)
    have z10:=Za b10.2
    have V11:=(V9.Zd fF (by rintro t rfl;simp[Tg.of])).Zd hO (by rintro t rfl;simp[Tg.of])
    have x11:=(x9.Zd fF).Zd hO
    have Zeb:=(xB9.Zd fF).Zd hO
    have K11:Kp (Qr i) o h o3 oI:=(K9.trans (fF.mono fun t q=>.inr (.inr (.inr (.inr (.inr (.inr q))))))).trans (hO.mono fun t q=>.inr (.inr (.inl q)))
    have R11:=Zx M11.ZD.2 NC
    have z11:=Za M11.ZD.2
    have U11:=YQ V11.ZD.2
    have ZmH:=Za V11.ZD.2
    have rx1:hc oI ⟨g.size,1,none⟩=some (.int .i64 y.c):=Zg x11.2
    have rx2:hc oI ⟨g.size,2,none⟩=some (.int .i64 y.s):=Zg x11.2
    have rB:rd oI ⟨B,0,none⟩ 2=some [.int .i64 c1,.int .i64 c2]:=Zo Zeb.2 rfl
    have ZmJ:=Za x11.2
    have ZmK:=Za Zeb.2
    simp -implicitDefEqProofs only[go_sem,↓reduceIte,w11,z10]
    refine VS.z (oI.size) [17,21] (.p 0 (.p 1 (.p 2 (.p 3 (.p 4 (.q 5 (.p 6 (.p 7 (.p 8 (.q 9 (.p 10 (.q 11 (.p 12 (.q 13 (.q 14 (.p 15 (.s 16 (.w 17 (.p 18 (.p 19 (.p 20 (.w 21 .nil)))))))))))))))))))))) mixed (by kernel_rfl) ?_
    simp -implicitDefEqProofs only[go_sem,↓reduceIte,f50,f51,f58,f5B,U11.told,R11.me,rx1,rx2,rB,z11,ZmH,ZmJ,ZmK]
    have rW:=ZW K11.ZU (.cells (LZ ⟨m.me,y.c,y.s,c1,c2⟩).toArray 42)
    have V12:=V11.still rW
    refine NB (l:=told++ts) (x:=⟨m.me,y.c,y.s,c1,c2⟩) V12.told rW.ZU Zb (by rw[List.length_append];omega) ?_
    intro p13 c13 o13 g13 q13 k13
    have vg:=V12.ZD.Zd k13 (by intro e;cases e)
    obtain⟨g14,w14,V14,k14⟩:=V12.aZ k13 q13 ((YQ vg.2).ve (.slice p13 _ c13) rfl)
    have z13:=Za vg.2
    simp -implicitDefEqProofs only[go_sem,↓reduceIte,w14,z13]
    have M14:=((M11.still rW).Zd k13 (by rintro t rfl;simp[Tg.of])).Zd k14 (by rintro t rfl;simp[Tg.of])
    have K14:Kp (Qr i) o h o13 g14:=(((K11.trans (ZC rW)).trans (k13.mono fun t q=>.inr (.inl q))).trans (k14.mono fun t q=>.inl q))
    have e4:UQ m y = { m with log:=m.log++[y],store:=D,queue:=m.queue.filter (fun z=>decide (z≠y)),waiting:=m.waiting.erase y }:=by unfold UQ;rw[←za]
    rw[e4]at g1 g2
    rw[←Uo,←Ix]at g2
    obtain⟨Zya,V15⟩:∃A,ZE o13 g14 wb Z4 A fl bad (told++(ts++[⟨m.me,y.c,y.s,c1,c2⟩])):=⟨_,by rw[←List.append_assoc];exact V14⟩
    rw[←List.append_assoc]at g2
    unfold Y6
    refine⟨⟨f50,f51,o13,_,_,_,ts++[⟨m.me,y.c,y.s,c1,c2⟩],f',j+1,K14,M14,V15,by omega,ah,by simp[gX];omega,by simp only;omega,by simp only;omega,by simp;omega,Zea,g1,g2⟩,mono _ _ _ _ M14 (by simp)⟩
def Zec (o:Ow) (h:Hp) (wb:Nat) (Z4:Nat→Nat) (fl:List YY) (bad:Nat→Int) (told:List TS) (h':Hp):Prop:=
 ∃o' Xl,Kp aW o h o' h'∧ZE o' h' wb Z4 Xl fl bad told
theorem bm (T:World) (h:Hp) (o:Ow) (wb nb:Nat) (Z4:Nat→Nat) (me:Nat) (Yy:WA) (fl:List YY) (bad:Nat→Int) (told:List TS) (b3 b4 b5 b7:Nat) (l:YY) (w5 w:Value) (vs:List Vt) (d:Q3 o h)
  (W:ZE o h wb Z4 Yy fl bad told) (fE:hc h ⟨nb,0,none⟩=some (.int .i64 me)) (WS:nb<h.size) (Yk:fl.length≤1000000000000)
  (x3:ZK o h b3 (.cells [Zn wb].toArray 91)) (x4:ZK o h b4 (.cells [Zn nb].toArray 98)) (x5:ZK o h b5 (.cells (YP l w5).toArray 148)) (x7:ZK o h b7 (.cells [w].toArray 103)) (iv:UZ o h w vs) :
  Zc Tryz.prog T 110 #[Zn b3,Zn b4,Zn b5,Zn b7] h fun v' h'=>Zec o h wb Z4 (fl++[⟨1,me,l.Jj,l.b,Tm,vs⟩]) bad told h':=by
 obtain⟨pw,cw,rfl⟩:=iv.isSlice
 refine Zc.Zh (args:=[_,_,_,_]) Tryz.func110 rfl rfl rfl rfl ?_
 unfold Zn
 have r3:hc h ⟨b3,0,none⟩=some (Zn wb):=Zg x3.2
 have r4:hc h ⟨b4,0,none⟩=some (Zn nb):=Zg x4.2
 have r5:hc h ⟨b5,1,none⟩=some (.int .i64 l.Jj):=Zg x5.2
 have r6:rd h ⟨b5,3,none⟩ 2=some [.int .i64 l.b.r,.int .i64 l.b.n]:=by rw[Z3 x5.2 (by simp[YP])];rfl
 have r7:hc h ⟨b7,0,none⟩=some (.slice pw vs.length cw):=Zg x7.2
 simp -implicitDefEqProofs only[go_sem,↓reduceIte,r3,r4,r5,r6,r7]
 refine (Uv T h o wb nb Z4 me Yy fl bad told l.Jj ⟨1,0,0,l.b,Tm,vs⟩ _ d W fE WS iv Yk).use ?_
 rintro v' h' ⟨o',Xl,k,_,W'⟩
 simp -implicitDefEqProofs only[go_sem,↓reduceIte]
 exact⟨o',Xl,k,W'⟩
theorem bq (T:World) (h:Hp) (o:Ow) (wb nb:Nat) (Z4:Nat→Nat) (me:Nat) (Yy:WA) (fl:List YY) (bad:Nat→Int) (told:List TS) (b3 b4 b5:Nat) (l:YY) (w5:Value) (d:Q3 o h)
  (W:ZE o h wb Z4 Yy fl bad told) (fE:hc h ⟨nb,0,none⟩=some (.int .i64 me)) (WS:nb<h.size) (Yk:fl.length≤1000000000000)
  (x3:ZK o h b3 (.cells [Zn wb].toArray 91)) (x4:ZK o h b4 (.cells [Zn nb].toArray 98)) (x5:ZK o h b5 (.cells (YP l w5).toArray 148)) :
  Zc Tryz.prog T 115 #[Zn b3,Zn b4,Zn b5] h fun v' h'=>Zec o h wb Z4 (fl++[⟨3,me,l.Jj,Jy,l.v,[]⟩]) bad told h':=by
 refine Zc.Zh (args:=[_,_,_]) Tryz.func115 rfl rfl rfl rfl ?_
 unfold Zn
 have r3:hc h ⟨b3,0,none⟩=some (Zn wb):=Zg x3.2
 have r4:hc h ⟨b4,0,none⟩=some (Zn nb):=Zg x4.2
 have r5:hc h ⟨b5,1,none⟩=some (.int .i64 l.Jj):=Zg x5.2
 have r6:rd h ⟨b5,5,none⟩ 8=some (Zm l.v):=by rw[Z3 x5.2 (by simp[YP])];rfl
 unfold Zm at r6
 simp -implicitDefEqProofs only[go_sem,↓reduceIte,r3,r4,r5,r6]
 refine (Uv T h o wb nb Z4 me Yy fl bad told l.Jj ⟨3,0,0,Jy,l.v,[]⟩ (.slice none 0 0) d W fE WS (Im.nil _ _ _ _) Yk).use ?_
 rintro v' h' ⟨o',Xl,k,_,W'⟩
 simp -implicitDefEqProofs only[go_sem,↓reduceIte]
 exact⟨o',Xl,k,W'⟩
def zc (i:Nat) (t:Tg):Prop:=t=.world∨t=.Zl∨t=.node i∨t=.prom i∨t=.Xb i
theorem rX (T:World) (h:Hp) (o:Ow) (wb i nb:Nat) (Z4:Nat→Nat) (Yy:WA) (fl:List YY) (bad:Nat→Int) (told:List TS) (a:NA) (n:Nd) (acc:WT) (to:Int) (b:XL) (vs:List Vt) (b6 b4 b9:Nat) (u:Value) (d:Q3 o h)
  (N:ZH o h wb i nb a n) (W:ZE o h wb Z4 Yy fl bad told) (Yk:fl.length≤1000000000000)
  (x6:TW o h b6 acc) (x4:ZK o h b4 (.cells [Zn nb].toArray 98)) (x9:ZK o h b9 (.cells [u].toArray 1)) (hu:mC o h wb nb u to b vs) :
  Zc Tryz.prog T 112 #[Zn b6,Zn b4,Zn b9] h fun v' h'=>∃o' a' Xl,Kp (zc i) o h o' h'∧ZH o' h' wb i nb a' { n with own:=acc }∧ZE o' h' wb Z4 Xl (fl++[⟨1,n.me,to,b,Tm,vs⟩]) bad told:=by
 obtain⟨wa,xa,ia⟩:=x6
 obtain⟨pa,ca,rfl⟩:=ia.isSlice
 obtain⟨b3,Bl,b5,b7,l,w5,w,rfl,y3,y4,y5,rfl,rfl,y7,iv⟩:=hu
 have WS:=Za N.ZD.2
 refine Zc.Zh (args:=[_,_,_]) Tryz.func112 rfl rfl rfl rfl ?_
 unfold Zn
 have r4:hc h ⟨b4,0,none⟩=some (Zn nb):=Zg x4.2
 have r6:rd h ⟨b6,0,none⟩ 3=some [.int .i64 acc.p.r,.int .i64 acc.p.n,.slice pa acc.l.length ca]:=Zo xa.2 rfl
 obtain⟨g1,w1,N1,k1⟩:=ZT.write (a:={ a with YD:=.slice pa acc.l.length ca }) (n:={ n with own:=acc }) { N.pt with YD:=ia } d N.ZD ((YI N.ZD.2 N.pt.store.len).own acc.p.r acc.p.n (.slice pa acc.l.length ca) rfl)
 have W1:=W.Zd k1 (by rintro t rfl;simp[Tg.of])
 have x91:=x9.Zd k1
 have r9:hc g1 ⟨b9,0,none⟩=some (U6 110 [b3,Bl,b5,b7]):=Zg x91.2
 unfold U6 at r9
 simp only[List.map]at r9
 unfold Zn at r4 r9
 simp -implicitDefEqProofs only[go_sem,↓reduceIte,r4,r6,w1,WS,r9]
 have R1:=Zx N1.ZD.2 N1.pt.store.len
 refine (bm T g1 o wb nb Z4 n.me Yy fl bad told b3 Bl b5 b7 l w5 w vs k1.ZU W1 R1.me (Za N1.ZD.2) Yk (y3.Zd k1) (y4.Zd k1) (y5.Zd k1) (y7.Zd k1) (iv.Zd k1)).use ?_
 rintro v' h' ⟨o',Xl,k,W'⟩
 simp -implicitDefEqProofs only[go_sem,↓reduceIte]
 exact⟨o',_,Xl,(k1.mono fun t q=>.inr (.inr (.inl q))).trans (k.mono fun t q=>q.elim .inl fun q=>.inr (.inl q)),N1.Zd k (by rintro t (rfl|rfl)<;>simp[Tg.of]),W'⟩
theorem rY (T:World) (h:Hp) (o:Ow) (wb i nb:Nat) (Z4:Nat→Nat) (Yy:WA) (fl:List YY) (bad:Nat→Int) (told:List TS) (a:NA) (n:Nd) (acc:WT) (to:Int) (x:Vt) (b6 b4 b9:Nat) (u:Value) (d:Q3 o h)
  (N:ZH o h wb i nb a n) (W:ZE o h wb Z4 Yy fl bad told) (Yk:fl.length≤1000000000000)
  (x6:TW o h b6 acc) (x4:ZK o h b4 (.cells [Zn nb].toArray 98)) (x9:ZK o h b9 (.cells [u].toArray 1)) (hu:mD o h wb nb u to x) :
  Zc Tryz.prog T 118 #[Zn b6,Zn b4,Zn b9] h fun v' h'=>∃o' a' Xl,Kp (zc i) o h o' h'∧ZH o' h' wb i nb a' { n with own:=acc }∧ZE o' h' wb Z4 Xl (fl++[⟨3,n.me,to,Jy,x,[]⟩]) bad told:=by
 obtain⟨wa,xa,ia⟩:=x6
 obtain⟨pa,ca,rfl⟩:=ia.isSlice
 obtain⟨b3,Bl,b5,l,w5,rfl,y3,y4,y5,rfl,rfl⟩:=hu
 have WS:=Za N.ZD.2
 refine Zc.Zh (args:=[_,_,_]) Tryz.func118 rfl rfl rfl rfl ?_
 unfold Zn
 have r4:hc h ⟨b4,0,none⟩=some (Zn nb):=Zg x4.2
 have r6:rd h ⟨b6,0,none⟩ 3=some [.int .i64 acc.p.r,.int .i64 acc.p.n,.slice pa acc.l.length ca]:=Zo xa.2 rfl
 obtain⟨g1,w1,N1,k1⟩:=ZT.write (a:={ a with YD:=.slice pa acc.l.length ca }) (n:={ n with own:=acc }) { N.pt with YD:=ia } d N.ZD ((YI N.ZD.2 N.pt.store.len).own acc.p.r acc.p.n (.slice pa acc.l.length ca) rfl)
 have W1:=W.Zd k1 (by rintro t rfl;simp[Tg.of])
 have x91:=x9.Zd k1
 have r9:hc g1 ⟨b9,0,none⟩=some (U6 115 [b3,Bl,b5]):=Zg x91.2
 unfold U6 at r9
 simp only[List.map]at r9
 unfold Zn at r4 r9
 simp -implicitDefEqProofs only[go_sem,↓reduceIte,r4,r6,w1,WS,r9]
 have R1:=Zx N1.ZD.2 N1.pt.store.len
 refine (bq T g1 o wb nb Z4 n.me Yy fl bad told b3 Bl b5 l w5 k1.ZU W1 R1.me (Za N1.ZD.2) Yk (y3.Zd k1) (y4.Zd k1) (y5.Zd k1)).use ?_
 rintro v' h' ⟨o',Xl,k,W'⟩
 simp -implicitDefEqProofs only[go_sem,↓reduceIte]
 exact⟨o',_,Xl,(k1.mono fun t q=>.inr (.inr (.inl q))).trans (k.mono fun t q=>q.elim .inl fun q=>.inr (.inl q)),N1.Zd k (by rintro t (rfl|rfl)<;>simp[Tg.of]),W'⟩
theorem QL.ins {o:Ow} {h:Hp} {k:Int} {w:Value} {vs:List Vt} (iv:UZ o h w vs):∀{pv:List (Int × Value)} {pr:List (Int × List Vt)},QL o h pv pr→QL o h (Go.V.ins pv k w) (Go.V.ins pr k vs):=by
 intro pv pr s
 induction s with
 | nil=>exact .cons ⟨rfl,iv⟩ .nil
 | @cons a b l m HJ _ ih=>
  obtain⟨a1,a2⟩:=a
  obtain⟨b1,b2⟩:=b
  obtain⟨rfl,h2⟩:=HJ
  show DN _ (if a1=k then (a1,w) :: l else (a1,a2) :: Go.V.ins l k w) (if a1=k then (a1,vs) :: m else (a1,b2) :: Go.V.ins m k vs)
  by_cases q:a1=k
  ·rw[if_pos q,if_pos q];exact .cons ⟨rfl,iv⟩ (by assumption)
  ·rw[if_neg q,if_neg q];exact .cons ⟨rfl,h2⟩ ih
theorem QL.length {o:Ow} {h:Hp} {pv:List (Int × Value)} {pr:List (Int × List Vt)} (s:QL o h pv pr):pv.length=pr.length:=by
 induction s with
 | nil=>rfl
 | cons _ _ ih=>simp[ih]
theorem QL.Y9 {o:Ow} {h:Hp} {pv:List (Int × Value)} {pr:List (Int × List Vt)} (s:QL o h pv pr) (k:Int):(Go.V.Y9 pv k=none∧Go.V.Y9 pr k=none)∨∃w vs,Go.V.Y9 pv k=some w∧Go.V.Y9 pr k=some vs∧UZ o h w vs:=by
 induction s with
 | nil=>exact .inl ⟨rfl,rfl⟩
 | @cons a b l m HJ _ ih=>
  obtain⟨a1,a2⟩:=a
  obtain⟨b1,b2⟩:=b
  obtain⟨rfl,h2⟩:=HJ
  unfold Go.V.Y9
  by_cases q:a1=k
  ·rw[if_pos q,if_pos q];exact .inr ⟨_,_,rfl,rfl,h2⟩
  ·rw[if_neg q,if_neg q];exact ih
theorem YA.bt {o:Ow} {i:Nat} {h:Hp} {ra:RA} {r:Qd} (s:YA o i h ra r) (d:Q3 o h) {k:Int} {w:Value} {vs:List Vt} (iv:UZ o h w vs) :
  Kp (fun t=>t=.prom i) o h o (h.setIfInBounds ra.pb (Xg (ins ra.pv k w)))∧YA o i (h.setIfInBounds ra.pb (Xg (ins ra.pv k w))) { ra with pv:=ins ra.pv k w } { r with prom:=ins r.prom k vs }:=by
 have kk:Kp (fun t=>t=.prom i) o h o (h.setIfInBounds ra.pb (Xg (ins ra.pv k w))):=(Kp.refl d (fun t=>t=.prom i)).set s.prom.1 rfl _
 exact⟨kk,s.ZD.Zd kk (by intro e;cases e),⟨s.prom.1,Zt s.prom.2⟩,QL.Zd (QL.ins iv s.TV) kk,s.prop.Zd kk (by intro e;cases e),s.Jk.Zd kk (by intro e;cases e),s.VU.Zd kk (fun _ e=>by cases e),s.keys⟩
theorem ZT.fG {o o':Ow} {h h':Hp} {wb i nb:Nat} {a:NA} {n:Nd} (s:ZT o h wb i nb a n) (k:Kp (fun t=>t=.Xb i) o h o' h') (hp:n.ZQ=none):ZT o' h' wb i nb a n:=
 ⟨s.data.Zd k,s.YD.Zd k,s.Zi.Zd k (fun t ht=>by rcases ht with rfl|rfl|rfl|rfl|⟨z,rfl⟩<;>intro e<;>cases e),s.known.Zd k (by intro e;cases e),s.log.Zd k (by intro e;cases e),s.queue.Zd k (by intro e;cases e),s.waiting.Zd k (by intro e;cases e),s.inbox.Zd k (by intro e;cases e),by
  have:=s.ZQ
  rw[hp]at this ⊢
  exact this,s.store⟩
theorem NF {n:Nd} {a:NA} {ra ra':RA} (r:Option Qd) (h:a.Zi=some ra) (hb:ra'.rb=ra.rb):Y4 { n with Zi:=r } { a with Zi:=some ra' } = Y4 n a:=by
 unfold Y4 Uk
 simp only[h,Rk,hb]
def ZmP (i:Nat) (t:Tg):Prop:=t=.node i∨t=.prom i∨t=.Xb i
theorem rZ (T:World) (h:Hp) (o:Ow) (wb i nb:Nat) (a:NA) (n:Nd) (acc:WT) (vs:List Vt) (cur:Bool) (v:Value) (d:Q3 o h)
  (N:ZH o h wb i nb a n) (hp:n.ZQ=none) (hv:Zd5 o h i nb a.Zi v acc vs cur) :
  ∃b6 b4 b7 b5,v=U6 119 [b6,b4,b7,b5]∧Zc Tryz.prog T 119 #[Zn b6,Zn b4,Zn b7,Zn b5] h fun v' h'=>∃o' a',Kp (ZmP i) o h o' h'∧ZH o' h' wb i nb a' { n with own:=acc,Zi:=if cur=true then n.Zi.map (fun r=>{ r with prom:=ins r.prom n.me vs }) else n.Zi }:=by
 obtain⟨b6,b4,b7,b5,w,rb,rfl,⟨wa,xa,ia⟩,x4,x7,iv,x5,Zed⟩:=hv
 obtain⟨pa,ca,rfl⟩:=ia.isSlice
 obtain⟨pw,cw,rfl⟩:=iv.isSlice
 refine⟨b6,b4,b7,b5,rfl,?_⟩
 have WS:=Za N.ZD.2
 refine Zc.Zh (args:=[_,_,_,_]) Tryz.func119 rfl rfl rfl rfl ?_
 unfold Zn
 have r4:hc h ⟨b4,0,none⟩=some (Zn nb):=Zg x4.2
 have r6:rd h ⟨b6,0,none⟩ 3=some [.int .i64 acc.p.r,.int .i64 acc.p.n,.slice pa acc.l.length ca]:=Zo xa.2 rfl
 obtain⟨g1,w1,N1,k1⟩:=ZT.write (a:={ a with YD:=.slice pa acc.l.length ca }) (n:={ n with own:=acc }) { N.pt with YD:=ia } d N.ZD ((YI N.ZD.2 N.pt.store.len).own acc.p.r acc.p.n (.slice pa acc.l.length ca) rfl)
 unfold Zn at r4
 simp -implicitDefEqProofs only[go_sem,↓reduceIte,r4,r6,w1,WS]
 have y4:=x4.Zd k1
 have y5:=x5.Zd k1
 have y7:=x7.Zd k1
 have q4:hc g1 ⟨b4,0,none⟩=some (Zn nb):=Zg y4.2
 have q5:hc g1 ⟨b5,0,none⟩=some (Zn rb):=Zg y5.2
 have q7:hc g1 ⟨b7,0,none⟩=some (.slice pw vs.length cw):=Zg y7.2
 unfold Zn at q4 q5
 have l4:=Za y4.2
 have l5:=Za y5.2
 have l7:=Za y7.2
 have R1:=Zx N1.ZD.2 N1.pt.store.len
 have lnb:=Za N1.ZD.2
 have sc:=iv.Zd k1
 refine VS.z (g1.size) [9] (.q 0 (.p 1 (.p 2 (.q 3 (.q 4 (.p 5 (.p 6 (.q 7 (.q 8 (.w 9 .nil)))))))))) mixed (by kernel_rfl) ?_
 cases cur with
 | true=>
  obtain⟨ra,OG,rfl⟩:=Zed
  have hR:=N1.pt.Zi
  have fH:({ a with YD:=.slice pa acc.l.length ca }:NA).Zi=some ra:=OG
  rw[fH]at hR
  cases hr:n.Zi with
  | none=>rw[show ({ n with own:=acc }:Nd).Zi=none from hr]at hR;exact hR.elim
  | some r=>
   rw[show ({ n with own:=acc }:Nd).Zi=some r from hr]at hR
   have hR:YA o i g1 ra r:=hR
   have rr:hc g1 ⟨ra.rb,2,none⟩=some (.map (some ra.pb)):=Zg hR.ZD.2
   have DW:=Za hR.ZD.2
   simp -implicitDefEqProofs only[go_sem,↓reduceIte,q4,q5,q7,l4,l5,l7,lnb,R1.me,rr,DW]
   rw[XK Nw hR.prom.2]
   simp -implicitDefEqProofs only[go_sem,↓reduceIte]
   obtain⟨k2,R2⟩:=hR.bt k1.ZU (k:=n.me) sc
   have k2':Kp (Xz i) o g1 o _:=k2.mono fun t q=>.inr (.inl q)
   refine⟨o,{ ({ a with YD:=.slice pa acc.l.length ca }:NA) with Zi:=some { ra with pv:=ins ra.pv n.me (.slice pw vs.length cw) } },(k1.mono fun t q=>.inl q).trans (k2.mono fun t q=>.inr (.inl q)),?_,?_⟩
   ·have:=N1.ZD.Zd k2 (by intro e;cases e)
    rw[←NF (some { r with prom:=ins r.prom n.me vs }) fH (ra':={ ra with pv:=ins ra.pv n.me (.slice pw vs.length cw) }) rfl]at this
    exact this
   ·exact ZT.J7 N1.pt k2' fH rfl R2
 | false=>
  obtain⟨cs,pb,pv,y1,y2,y3⟩:=Zed
  have z1:=y1.Zd k1 (by intro e;cases e)
  have z3:=y3.Zd k1 (by intro e;cases e)
  have rr:hc g1 ⟨rb,2,none⟩=some (.map (some pb)):=by rw[WX z1.2];exact y2
  have DW:=Za z1.2
  simp -implicitDefEqProofs only[go_sem,↓reduceIte,q4,q5,q7,l4,l5,l7,lnb,R1.me,rr,DW]
  rw[XK Nw z3.2]
  simp -implicitDefEqProofs only[go_sem,↓reduceIte]
  have k2:Kp (fun t=>t=.Xb i) o g1 o (g1.setIfInBounds pb (Xg (ins pv n.me (.slice pw vs.length cw)))):=(Kp.refl k1.ZU (fun t=>t=.Xb i)).set z3.1 rfl _
  exact⟨o,_,(k1.mono fun t q=>.inl q).trans (k2.mono fun t q=>.inr (.inr q)),N1.ZD.Zd k2 (by intro e;cases e),N1.pt.fG k2 hp⟩
end Go.Proofs.YtpomedigibbeeaaGreatDoor

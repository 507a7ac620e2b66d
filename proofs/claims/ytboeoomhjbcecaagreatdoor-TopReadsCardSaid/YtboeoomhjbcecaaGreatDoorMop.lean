/- The nodes of a cluster, in plain words: what each piece of the program makes of them. Definitions alone. -/
import Derived.Test.YtboeoomhjbcecaaGreatDoorOpn
import Derived.Test.YtboeoomhjbcecaaGreatDoorMix
import Derived.Test.YtboeoomhjbcecaaGreatDoorChw
import Derived.Test.YtboeoomhjbcecaaGreatDoorPik
import Derived.Test.YtboeoomhjbcecaaGreatDoorW25
namespace Go.Proofs.YtboeoomhjbcecaaGreatDoor
open Go Go.V
set_option linter.unusedSimpArgs false
set_option linter.unusedVariables false
deriving instance DecidableEq for YN
deriving instance DecidableEq for Vt
deriving instance DecidableEq for Js
abbrev Cm:=Js
def By:Cm:=⟨0,0,0,0,0⟩
def Js.C (x:Js):List Value:=Qp x.k x.c x.s x.n x.v
def Js.err (x:Js):Int:=Yx x.k x.c x.s x.n x.v
def Vt.cm (v:Vt):Cm:=⟨v.k,v.c,v.s,v.nm,v.v⟩
def T8 (s:Int) (b:YN) (x:Cm):Vt:=⟨s,b,x.k,x.c,x.s,x.n,x.v⟩
def JE:YN:=⟨0,0⟩
structure Xj where
 kind:Int
 JM:Int
 to:Int
 b:YN
 v:Vt
 vs:List Vt
structure JF where
 b:YN
 prom:List (Int × List Vt)
 begun:Bool
 prop:List (Int × Cm)
 Xz:List (Int × List (Int × Unit))
inductive Bz where
 | Lf (a:QK) (to:Int) (b:YN) (vs:List Vt)
 | MO (a:QK) (to:Int) (v:Vt)
 | own (a:QK) (vs:List Vt) (cur:Bool)
structure Nd where
 me:Nat
 up:Bool
 data:List Nat
 Xg:Int
 own:QK
 heard:YN
 Zj:Option JF
 known:List (Int × Cm)
 log:List Cm
 store:List Value
 queue:List Cm
 waiting:List Cm
 inbox:List Xj
 ZB:Option Bz
 Xr:Int
structure Rr where
 node:Int
 c:Int
 s:Int
 code:Int
 val:Int
structure Wd where
 nodes:Nat→Nd
 Zn:List Xj
 bad:Nat→Int
 told:List Rr
structure Out where
 n:Nd
 ls:List Xj
 ts:List Rr
def Y6 (n:Nd) (l:Xj):Out:=
 if Yu n.own.p n.own.l l.b≠0 then ⟨n,[⟨7,n.me,l.JM,n.own.p,Tw,[]⟩],[]⟩
 else if n.own.p=l.b then ⟨n,[⟨1,n.me,l.JM,l.b,Tw,n.own.l⟩],[]⟩
 else if Qi n.data n.Xg l.b≠0 then ⟨n,[],[]⟩
 else ⟨{ n with data:=n.data++Yo (X3 l.b),ZB:=some (.Lf ⟨l.b,n.own.l⟩ l.JM l.b n.own.l) },[],[]⟩
def asked (n:Nd) (l:Xj):Out:=
 if YQ n.own.p n.own.l l.v≠0 then ⟨n,[⟨7,n.me,l.JM,n.own.p,Tw,[]⟩],[]⟩
 else if l.v∈n.own.l then ⟨n,[⟨3,n.me,l.JM,JE,l.v,[]⟩],[]⟩
 else if Uc n.data n.Xg l.v≠0 then ⟨n,[],[]⟩
 else ⟨{ n with data:=n.data++Yo (QJ l.v),ZB:=some (.MO ⟨l.v.b,JP n.own.l l.v⟩ l.JM l.v) },[],[]⟩
def Ea (st:List Value) (x:Cm):List Value:=if QI st x=0 then (Y5 st x).cells else Yn
def Pv (st:List Value) (x:Cm):Int:=if QI st x=0 then (Y5 st x).code else 0
def Ih (st:List Value) (x:Cm):Int:=if QI st x=0 then (Y5 st x).val else 0
def Wp (n:Nd) (x:Cm):Nd:={ n with log:=n.log++[x],store:=Ea n.store x,queue:=n.queue.filter (fun y=>decide (y≠x)),waiting:=n.waiting.erase x }
def TL (n:Nd) (x:Cm):List Rr:=if x∈n.waiting then [⟨n.me,x.c,x.s,Pv n.store x,Ih n.store x⟩] else []
def YH:Nat→Nd→Nd × List Rr
 | 0,n=>(n,[])
 | k+1,n=>match Yv n.known n.log.length with
  | none=>(n,[])
  | some x=>((YH k (Wp n x)).1,TL n x++(YH k (Wp n x)).2)
def Ud (n:Nd) (s:Int) (x:Cm):Nd:={ n with known:=ins n.known s x }
def Wq (n:Nd) (s:Int) (x:Cm):Out:=
 ⟨(YH ((Ud n s x).known.length+1) (Ud n s x)).1,[],(YH ((Ud n s x).known.length+1) (Ud n s x)).2⟩
def Zce (n:Nd) (r:JF) (l:Xj):Nd:={ n with Zj:=some { r with prom:=ins r.prom l.JM l.vs } }
def Wr (r:JF) (l:Xj):List (Int × Unit):=ins ((Yv r.Xz l.v.slot).getD []) l.JM ()
def Lg (n:Nd) (r:JF) (l:Xj):Nd:={ n with Zj:=some { r with Xz:=ins r.Xz l.v.slot (Wr r l) } }
def YE (n:Nd) (l:Xj):Out:=
 match n.Zj with
 | none=>⟨n,[],[]⟩
 | some r=>
  if l.kind=1 then (if l.b=r.b then ⟨Zce n r l,[],[]⟩ else ⟨n,[],[]⟩)
  else if l.v.b≠r.b then ⟨n,[],[]⟩
  else if 5<2*(Wr r l).length then Wq (Lg n r l) l.v.slot l.v.cm
  else ⟨Lg n r l,[],[]⟩
def add (n:Nd) (x:Cm):Nd:=if x∈n.queue∨x∈n.log then n else { n with queue:=n.queue++[x] }
def notes (n:Nd) (l:Xj):Nd:=if below n.heard l.b then { n with heard:=l.b } else n
def Ws (n:Nd) (l:Xj):Out:=
 match Yv n.known l.v.slot with
 | some x=>⟨notes n l,[⟨6,n.me,l.JM,JE,T8 l.v.slot JE x,[]⟩],[]⟩
 | none=>⟨notes n l,[],[]⟩
def handle (n:Nd) (l:Xj):Out:=
 if l.kind=0 then Y6 n l else if l.kind=1∨l.kind=3 then YE n l else if l.kind=2 then asked n l
 else if l.kind=4 then ⟨add n l.v.cm,[],[]⟩ else if l.kind=5 then Ws n l else if l.kind=6 then Wq n l.v.slot l.v.cm else ⟨notes n l,[],[]⟩
def Z5 (r:JF):List (List Vt):=(List.range 5).map fun (m:Nat)=>(Yv r.prom (m:Int)).getD []
def Pw (l:List Vt):Int:=l.foldl (fun t v=>if t<v.slot then v.slot else t) (-1)
def SC (LL:List (List Vt)) (s:Int):Cm:=if Vf s LL.flatten=0 then (Q9 s LL.flatten).cm else By
def XT (n:Nd) (LL:List (List Vt)) (pr:List (Int × Cm)) (s:Nat):List (Int × Cm):=if Yv n.known (s:Int)=none then ins pr (s:Int) (SC LL s) else pr
def TM (n:Nd) (r:JF):JF:=
 { r with prop:=(List.range' n.log.length ((Pw (Z5 r).flatten+1).toNat-n.log.length)).foldl (XT n (Z5 r)) r.prop,begun:=true }
def QS (n:Nd) (r:JF) (x:Cm):Nat→Nat→Option Nat
 | 0,_=>none
 | k+1,s=>if Yv r.prop (s:Int)=some x∨Yv n.known (s:Int)=some x then none
  else if Yv r.prop (s:Int)=none∧Yv n.known (s:Int)=none then some s else QS n r x k (s+1)
def free (n:Nd) (r:JF) (x:Cm):Option Nat:=QS n r x (40-n.log.length) n.log.length
def Wt (n:Nd) (r:JF) (x:Cm):JF:=match free n r x with|some s=>{ r with prop:=ins r.prop (s:Int) x }|none=>r
def JN (n:Nd) (r:JF) (l:List Cm):JF:=l.foldl (Wt n) r
def NU (n:Nd) (r:JF):List Xj:=(List.range 5).flatMap fun (m:Nat)=>if Yv r.prom (m:Int)=none then [⟨0,n.me,m,r.b,Tw,[]⟩] else []
def Px (n:Nd) (r:JF) (s:Nat) (x:Cm) (m:Nat):List Xj:=if Yv ((Yv r.Xz (s:Int)).getD []) (m:Int)=none then [⟨2,n.me,m,JE,T8 s r.b x,[]⟩] else []
def WL (n:Nd) (r:JF) (s:Nat):List Xj:=match Yv r.prop (s:Int) with
 | some x=>if Yv n.known (s:Int)=none then (List.range 5).flatMap (Px n r s x) else []
 | none=>[]
def OS (n:Nd) (r:JF):List Xj:=(List.range 40).flatMap (WL n r)
def UC (n:Nd) (r:JF):JF:=JN n (if r.begun=true then r else TM n r) n.queue
def QY (n:Nd) (r:JF):Out:=
 if below n.own.p r.b then
  (if Qi n.data n.Xg r.b≠0 then ⟨n,[],[]⟩ else
    ⟨{ n with data:=n.data++Yo (X3 r.b),ZB:=some (.own (if Yu n.own.p n.own.l r.b=0 then ⟨r.b,n.own.l⟩ else X4) (if Yu n.own.p n.own.l r.b=0 then n.own.l else []) true) },[],[]⟩)
 else if ¬5<2*r.prom.length then ⟨n,NU n r,[]⟩
 else ⟨{ n with Zj:=some (UC n r) },OS n (UC n r),[]⟩
def still (n:Nd):Nd:=match n.Zj with|some r=>if below r.b n.own.p then { n with Zj:=none } else n|none=>n
def Tf (n:Nd):List Xj:=n.queue.map fun x=>⟨4,n.me,n.own.p.n,JE,T8 0 JE x,[]⟩
def YI (n:Nd):Out:=match n.Zj with
 | some r=>QY n r
 | none=>if 0<n.own.p.r∧n.own.p.n≠n.me then ⟨n,Tf n,[]⟩ else ⟨n,[],[]⟩
def UM (n:Nd):YN:=if below n.own.p n.heard then n.heard else n.own.p
def Qg (n:Nd):Nd:={ n with Xr:=(n.Xr+1)%5 }
def Vz (n:Nd):List Xj:=if n.Xr≠n.me∧n.log.length<40 then [⟨5,n.me,n.Xr,UM n,T8 n.log.length JE By,[]⟩] else []
def VA (n:Nd):Out:=
 if (YI (still n)).n.ZB.isSome=true then YI (still n)
 else ⟨Qg (YI (still n)).n,(YI (still n)).ls++Vz (Qg (YI (still n)).n),[]⟩
def synced (n:Nd):Nd:={ n with data:=if YU n.data n.Xg then n.data else [],Xg:=if YU n.data n.Xg then (n.data.length:Int) else 0,ZB:=none }
def finish (n:Nd):Bz→Out
 | .Lf a to b vs=>⟨{ n with own:=a },[⟨1,n.me,to,b,Tw,vs⟩],[]⟩
 | .MO a to v=>⟨{ n with own:=a },[⟨3,n.me,to,JE,v,[]⟩],[]⟩
 | .own a vs cur=>⟨{ n with own:=a,Zj:=if cur=true then n.Zj.map (fun r=>{ r with prom:=ins r.prom n.me vs }) else n.Zj },[],[]⟩
def drain:Nd→List Xj→Out
 | n,[]=>⟨{ n with inbox:=[] },[],[]⟩
 | n,l :: k=>if n.ZB.isSome=true then ⟨{ n with inbox:=l :: k },[],[]⟩
  else ⟨(drain (handle { n with inbox:=k } l).n k).n,(handle { n with inbox:=k } l).ls++(drain (handle { n with inbox:=k } l).n k).ls,(handle { n with inbox:=k } l).ts++(drain (handle { n with inbox:=k } l).n k).ts⟩
def step (n:Nd):Out:=
 if n.up=true then (match n.ZB with
  | some p=>finish (synced n) p
  | none=>if (drain n n.inbox).n.ZB.isSome=true then drain n n.inbox
   else ⟨(VA (drain n n.inbox).n).n,(drain n n.inbox).ls++(VA (drain n n.inbox).n).ls,(drain n n.inbox).ts++(VA (drain n n.inbox).n).ts⟩)
 else ⟨n,[],[]⟩
def blank (i:Nat) (up:Bool) (data:List Nat) (Xg:Int) (own:QK):Nd:=⟨i,up,data,Xg,own,JE,none,[],[],Yn,[],[],[],none,0⟩
def XF (n:Nd):YN:=⟨match n.Zj with
 | some r=>max (max n.own.p.r n.heard.r+1) (r.b.r+1)
 | none=>max n.own.p.r n.heard.r+1,n.me⟩
def Xo:Option Bz→Option Bz
 | some (.own a vs _)=>some (.own a vs false)
 | p=>p
def lead (n:Nd):Nd:=if n.up=false∨65536<(XF n).r then n else { n with Zj:=some ⟨XF n,[],false,[],[]⟩,ZB:=Xo n.ZB }
def Jt (rc:List Nat) (now:Int):Cm:=if Yy rc now=0 then ⟨Xq ((Xv rc).drop 22) 0,Xq ((Xv rc).drop 22) 1,Xq ((Xv rc).drop 22) 2,Xq ((Xv rc).drop 22) 3,Xq ((Xv rc).drop 22) 4⟩ else By
def Ii (l:List Nat):Nat→QK→Nat→QK × Nat
 | 0,a,k=>(a,k)
 | f+1,a,k=>match Yp l a k with
  | none=>(a,k)
  | some x=>Ii l f x.1 x.2
def Wu (l:List Nat):QK × Nat:=Ii l (l.length+1) X4 0
def Qu (l:List Nat) (n k:Int):Int:=n+(if (l.length:Int)-n<k then (l.length:Int)-n else k)
def crashed (i:Nat) (n:Nd) (Zd:Int):Nd:=
 if n.up=true then (if YU n.data n.Xg∧0≤Zd then blank i false (n.data.take (Qu n.data n.Xg Zd).toNat) (Qu n.data n.Xg Zd) X4 else blank i false [] 0 X4) else n
def Ij (l:List Nat) (n:Int):List Nat:=if YU l n then l.take (Wu l).2 else []
def bq (l:List Nat) (n:Int):Int:=if YU l n then (if ((Wu l).2:Int)<n then ((Wu l).2:Int) else n) else 0
def started (i:Nat) (n:Nd):Nd:=
 if n.up=true then n else blank i true (Ij n.data n.Xg) (bq n.data n.Xg) (if YU (Ij n.data n.Xg) (bq n.data n.Xg) then (Wu (Ij n.data n.Xg)).1 else X4)
structure Ac where
 kind:Int
 node:Nat
 at':Nat
 Zd:Int
 data:List Nat
def Wd.set (w:Wd) (i:Nat) (n:Nd):Wd:={ w with nodes:=fun j=>if j=i then n else w.nodes j }
def Wd.out (w:Wd) (i:Nat) (o:Out):Wd:={ nodes:=fun j=>if j=i then o.n else w.nodes j,Zn:=w.Zn++o.ls,bad:=w.bad,told:=w.told++o.ts }
def WC (w:Wd) (l:Xj):Wd:=if (w.nodes l.to.toNat).up=true then w.set l.to.toNat { w.nodes l.to.toNat with inbox:=(w.nodes l.to.toNat).inbox++[l] } else w
def pick (w:Wd) (at':Nat) (comes stays:Bool):Wd:=
 match w.Zn[at'%w.Zn.length]? with
 | none=>w
 | some l=>if comes=true then WC (if stays=true then w else { w with Zn:=w.Zn.eraseIdx (at'%w.Zn.length) }) l else (if stays=true then w else { w with Zn:=w.Zn.eraseIdx (at'%w.Zn.length) })
def NV (n:Nd) (x:Cm):Nd:=if x∈n.waiting then n else { n with waiting:=n.waiting++[x] }
def Py (w:Wd) (i:Nat) (data:List Nat):Wd:=
 if (w.nodes i).up=true then
  (if Yy data (w.nodes i).log.length≠0 then { w with bad:=fun j=>if j=i then w.bad i+1 else w.bad j }
  else if Jt data (w.nodes i).log.length∈(w.nodes i).log then
   { w with told:=w.told++[⟨(w.nodes i).me,(Jt data (w.nodes i).log.length).c,(Jt data (w.nodes i).log.length).s,Pv (w.nodes i).store (Jt data (w.nodes i).log.length),Ih (w.nodes i).store (Jt data (w.nodes i).log.length)⟩] }
  else w.set i (NV (add (w.nodes i) (Jt data (w.nodes i).log.length)) (Jt data (w.nodes i).log.length)))
 else w
def act (w:Wd) (a:Ac):Wd:=
 if a.kind=1 then Py w a.node a.data
 else if a.kind=2 then w.set a.node (lead (w.nodes a.node))
 else if a.kind=3 then w.out a.node (step (w.nodes a.node))
 else if a.kind=4∨a.kind=5∨a.kind=6 then pick w a.at' (decide (a.kind≠5)) (decide (a.kind=6))
 else if a.kind=7 then w.Zn.foldl WC { w with Zn:=[] }
 else if a.kind=8 then w.set a.node (crashed a.node (w.nodes a.node) a.Zd)
 else w.set a.node (started a.node (w.nodes a.node))
def VB:Wd:=⟨fun i=>blank i true [] 0 X4,[],fun _=>0,[]⟩
def OT (l:List Ac):Wd:=l.foldl act VB
set_option maxRecDepth 100000
@[go_sem] theorem Th:dA Tryz.prog 83=some 47:=by kernel_rfl
@[go_sem] theorem MP:dA Tryz.prog 135=some 79:=by kernel_rfl
@[go_sem] theorem Ik:dA Tryz.prog 136=some 185:=by kernel_rfl
@[go_sem] theorem Gw:dA Tryz.prog 185=some 186:=by kernel_rfl
@[go_sem] theorem qA:dA Tryz.prog 162=some 161:=by kernel_rfl
@[go_sem] theorem OU:zm Tryz.prog 47=some (.agg By.C.toArray):=by kernel_rfl
@[go_sem] theorem qB:zm Tryz.prog 79=some (.slice none 0 0):=by kernel_rfl
@[go_sem] theorem Gx:zm Tryz.prog 185=some (.map none):=by kernel_rfl
@[go_sem] theorem zZ:zm Tryz.prog 186=some (.agg #[]):=by kernel_rfl
@[go_sem] theorem ZgT:zm Tryz.prog 161=some .nilFunc:=by kernel_rfl
@[go_sem] theorem ZBJ:tkp Tryz.prog 82=true:=by kernel_rfl
@[go_sem] theorem ZBK:tkm Tryz.prog 185=true:=by kernel_rfl
@[go_sem] theorem ZBL:uZ Tryz.prog 1=true:=by kernel_rfl
inductive Tg where
 | world
 | nodes
 | Zn
 | told
 | node (i:Nat)
 | known (i:Nat)
 | log (i:Nat)
 | queue (i:Nat)
 | waiting (i:Nat)
 | inbox (i:Nat)
 | Zj (i:Nat)
 | prom (i:Nat)
 | prop (i:Nat)
 | Xz (i:Nat)
 | TN (i:Nat) (s:Int)
 | Xo (i:Nat)
def Tg.of:Tg→Option Nat
 | .world=>none
 | .nodes=>none
 | .Zn=>none
 | .told=>none
 | .node i=>some i
 | .known i=>some i
 | .log i=>some i
 | .queue i=>some i
 | .waiting i=>some i
 | .inbox i=>some i
 | .Zj i=>some i
 | .prom i=>some i
 | .prop i=>some i
 | .Xz i=>some i
 | .TN i _=>some i
 | .Xo i=>some i
abbrev Ow:=Nat→Option Tg
structure Im (o:Ow) (n:Nat) (h:Hp) (v:Value) (m:Nat) (cs:List Value):Prop where
 sl:Sl n h v m cs
 fits:∃p c,v=.slice p m c∧m≤c
 free:∀b,ZO v=some b→b<h.size∧o b=none
theorem Im.Zd {S:Tg→Prop} {o o':Ow} {n m:Nat} {h h':Hp} {v:Value} {cs:List Value} (s:Im o n h v m cs) (k:Kp S o h o' h'):Im o' n h' v m cs:=by
 obtain⟨⟨p,c,rfl,hl,tJ⟩,⟨p',c',he,hm⟩,hf⟩:=s;simp only[Value.slice.injEq,true_and]at he;obtain⟨rfl,rfl⟩:=he;have hf':∀b,ZO (.slice p m c)=some b→b<h.size∧o b=none∧h'[b]? = h[b]? ∧ o' b=none:=fun b hb=>by
  obtain⟨h1,h2⟩:=hf b hb;obtain⟨h3,h4⟩:=k.Zd b h1 fun t ht=>by rw[h2]at ht;cases ht
  exact⟨h1,h2,h3,by rw[h4,h2]⟩
 refine⟨⟨p,c,rfl,hl,fun YA=>?_⟩,⟨p,c,rfl,hm⟩,fun b hb=>⟨Nat.lt_of_lt_of_le (hf' b hb).1 k.size,(hf' b hb).2.2.2⟩⟩;obtain⟨b,off,rfl,YS⟩:=tJ YA;have dm:c≠0:=by
  intro e;have:m=0:=by omega
  subst this;exact YA (List.eq_nil_of_length_eq_zero (by simpa using hl))
 have hb:ZO (.slice (some ⟨b,off,none⟩) m c)=some b:=by simp[ZO,dm]
 refine⟨b,off,rfl,fun i hi=>?_⟩;have:=YS i hi;unfold hc at this ⊢;rw[(hf' b hb).2.2.1];exact this
theorem Im.Ue {o:Ow} {B n m:Nat} {E:TypeId} {h:Hp} {v:Value} {cs:List Value} (s:Qv B E n h v m cs) (hd:∀b,B≤b→o b=none):Im o n h v m cs:=by
 refine⟨s.sl,?_,fun b hb=>?_⟩
 ·rcases s with⟨⟨p,rfl⟩,rfl,_⟩|⟨b,cap,sp,_,rfl,_,_,_,hm⟩
  ·exact⟨p,0,rfl,Nat.le_refl _⟩
  ·exact⟨_,cap,rfl,hm⟩
 ·exact⟨s.lt b hb,hd b (s.ZG b hb)⟩
theorem Im.nil (o:Ow) (n:Nat) (h:Hp) (p:Option Addr):Im o n h (.slice p 0 0) 0 []:=
 ⟨⟨p,0,rfl,by simp,fun YA=>absurd rfl YA⟩,⟨p,0,rfl,Nat.le_refl _⟩,fun b hb=>by cases p<;>simp[ZO]at hb⟩
def Wz (o:Ow) (h:Hp) (v:Value) (l:List Vt):Prop:=Im o 8 h v l.length (Zz Zo l)
def VC (o:Ow) (h:Hp) (v:Value) (l:List Nat):Prop:=Im o 1 h v l.length (l.map bv)∧∀x∈l,x<256
theorem Wz.ts {o:Ow} {h:Hp} {v:Value} {l:List Vt} (s:Wz o h v l):Ts Zo 8 h v l:=⟨Im.sl s⟩
theorem VC.bs {o:Ow} {h:Hp} {v:Value} {l:List Nat} (s:VC o h v l):Bs h v l:=⟨s.1.sl,s.2⟩
theorem Wz.Zd {S:Tg→Prop} {o o':Ow} {h h':Hp} {v:Value} {l:List Vt} (s:Wz o h v l) (k:Kp S o h o' h'):Wz o' h' v l:=Im.Zd s k
theorem VC.Zd {S:Tg→Prop} {o o':Ow} {h h':Hp} {v:Value} {l:List Nat} (s:VC o h v l) (k:Kp S o h o' h'):VC o' h' v l:=⟨s.1.Zd k,s.2⟩
def Y7 (l:Xj) (w:Value):List Value:=[.int .i64 l.kind,.int .i64 l.JM,.int .i64 l.to,.int .i64 l.b.r,.int .i64 l.b.n,.int .i64 l.v.slot,.int .i64 l.v.b.r,.int .i64 l.v.b.n,.int .i64 l.v.k,.int .i64 l.v.c,.int .i64 l.v.s,.int .i64 l.v.nm,.int .i64 l.v.v,w]
def MQ (x:Xj × Value):List Value:=Y7 x.1 x.2
def Il (t:Rr):List Value:=[.int .i64 t.node,.int .i64 t.c,.int .i64 t.s,.int .i64 t.code,.int .i64 t.val]
def Zp (b:Nat):Value:=.pointer (some ⟨b,0,none⟩)
def Vi (x:Cm):Value:=.agg x.C.toArray
def QT (o:Ow) (t:Tg) (h:Hp) (v:Value) (l:List Cm):Prop:=YG o t 47 5 h v l.length (Zz Js.C l)
def Q0 (o:Ow) (t:Tg) (h:Hp) (v:Value) (l:List Xj):Prop:=
 ∃xs:List (Xj × Value),xs.map (·.1)=l∧YG o t 111 14 h v xs.length (Zz MQ xs)∧∀x∈xs,Wz o h x.2 x.1.vs
theorem QT.Zd {S:Tg→Prop} {o o':Ow} {t:Tg} {h h':Hp} {v:Value} {l:List Cm} (s:QT o t h v l) (k:Kp S o h o' h') (hn:¬S t):QT o' t h' v l:=YG.Zd s k hn
theorem Q0.Zd {S:Tg→Prop} {o o':Ow} {t:Tg} {h h':Hp} {v:Value} {l:List Xj} (s:Q0 o t h v l) (k:Kp S o h o' h') (hn:¬S t):Q0 o' t h' v l:=by
 obtain⟨xs,h1,h2,h3⟩:=s;exact⟨xs,h1,h2.Zd k hn,fun x hx=>(h3 x hx).Zd k⟩
def QG (o:Ow) (t:Tg) (h:Hp) (b:Nat) (l:List (Int × Value)):Prop:=o b=some t∧h[b]? = some (Xu l)
theorem QG.Zd {S:Tg→Prop} {o o':Ow} {t:Tg} {h h':Hp} {b:Nat} {l:List (Int × Value)} (s:QG o t h b l) (k:Kp S o h o' h') (hn:¬S t):QG o' t h' b l:=by
 have RD:∀u,o b=some u→¬S u:=fun u hu=>by rw[s.1]at hu;cases hu;exact hn
 exact⟨by rw[k.own s.2 RD,s.1],k.get s.2 RD⟩
def Q2 (o:Ow) (t:Tg) (h:Hp) (b:Nat) (x:Obj):Prop:=o b=some t∧h[b]? = some x
theorem Q2.Zd {S:Tg→Prop} {o o':Ow} {t:Tg} {h h':Hp} {b:Nat} {x:Obj} (s:Q2 o t h b x) (k:Kp S o h o' h') (hn:¬S t):Q2 o' t h' b x:=by
 have RD:∀u,o b=some u→¬S u:=fun u hu=>by rw[s.1]at hu;cases hu;exact hn
 exact⟨by rw[k.own s.2 RD,s.1],k.get s.2 RD⟩
def ZR (o:Ow) (h:Hp) (b:Nat) (x:Obj):Prop:=o b=none∧h[b]? = some x
theorem ZR.Zd {S:Tg→Prop} {o o':Ow} {h h':Hp} {b:Nat} {x:Obj} (s:ZR o h b x) (k:Kp S o h o' h'):ZR o' h' b x:=(k.free s.2 s.1).symm
def Uf (o:Ow) (h:Hp) (pv:List (Int × Value)) (pr:List (Int × List Vt)):Prop:=Dm (fun x y=>x.1=y.1∧Wz o h x.2 y.2) pv pr
theorem Uf.Zd {S:Tg→Prop} {o o':Ow} {h h':Hp} {pv:List (Int × Value)} {pr:List (Int × List Vt)} (s:Uf o h pv pr) (k:Kp S o h o' h'):Uf o' h' pv pr:=by
 induction s with
 | nil=>exact .nil
 | cons a _ ih=>exact .cons ⟨a.1,a.2.Zd k⟩ ih
def Lh (l:List (Int × Unit)):List (Int × Value):=UJ (fun _=>.agg #[]) l
def Q3 (o:Ow) (i:Nat) (h:Hp) (sv:List (Int × Nat)) (vt:List (Int × List (Int × Unit))):Prop:=Dm (fun x y=>x.1=y.1∧QG o (.TN i y.1) h x.2 (Lh y.2)) sv vt
theorem Q3.Zd {S:Tg→Prop} {o o':Ow} {i:Nat} {h h':Hp} {sv:List (Int × Nat)} {vt:List (Int × List (Int × Unit))} (s:Q3 o i h sv vt) (k:Kp S o h o' h') (hn:∀s,¬S (.TN i s)):Q3 o' i h' sv vt:=by
 induction s with
 | nil=>exact .nil
 | cons a _ ih=>exact .cons ⟨a.1,a.2.Zd k (hn _)⟩ ih
def tP (b:Nat):Value:=.map (some b)
structure RA where
 rb:Nat
 pb:Nat
 qb:Nat
 vb:Nat
 pv:List (Int × Value)
 sv:List (Int × Nat)
def bt (r:JF) (a:RA):List Value:=[.int .i64 r.b.r,.int .i64 r.b.n,.map (some a.pb),.bool r.begun,.map (some a.qb),.map (some a.vb)]
structure YR (o:Ow) (i:Nat) (h:Hp) (a:RA) (r:JF):Prop where
 ZG:Q2 o (.Zj i) h a.rb (.cells (bt r a).toArray 138)
 prom:QG o (.prom i) h a.pb a.pv
 SD:Uf o h a.pv r.prom
 prop:QG o (.prop i) h a.qb (UJ Vi r.prop)
 Xz:QG o (.Xz i) h a.vb (UJ tP a.sv)
 Ti:Q3 o i h a.sv r.Xz
 keys:(a.sv.map (·.1)).Nodup
def XQ (i:Nat) (t:Tg):Prop:=t=.Zj i∨t=.prom i∨t=.prop i∨t=.Xz i∨∃s,t=.TN i s
theorem YR.Zd {S:Tg→Prop} {o o':Ow} {i:Nat} {h h':Hp} {a:RA} {r:JF} (s:YR o i h a r) (k:Kp S o h o' h') (hn:∀t,XQ i t→¬S t):YR o' i h' a r:=
 ⟨s.ZG.Zd k (hn _ (.inl rfl)),s.prom.Zd k (hn _ (.inr (.inl rfl))),s.SD.Zd k,s.prop.Zd k (hn _ (.inr (.inr (.inl rfl)))),s.Xz.Zd k (hn _ (.inr (.inr (.inr (.inl rfl))))),s.Ti.Zd k (fun s=>hn _ (.inr (.inr (.inr (.inr ⟨s,rfl⟩))))),s.keys⟩
def Pz:Option RA→Value
 | some a=>Zp a.rb
 | none=>.pointer none
def wZ (o:Ow) (i:Nat) (h:Hp):Option RA→Option JF→Prop
 | some a,some r=>YR o i h a r
 | none,none=>True
 | _,_=>False
theorem wZ.Zd {S:Tg→Prop} {o o':Ow} {i:Nat} {h h':Hp} {a:Option RA} {r:Option JF} (s:wZ o i h a r) (k:Kp S o h o' h') (hn:∀t,XQ i t→¬S t):wZ o' i h' a r:=by
 cases a<;>cases r<;>first|exact s|exact YR.Zd s k hn
def WM (f:FuncId) (l:List Nat):Value:=.func (.func f) #[] (l.map Zp).toArray
def qC (o:Ow) (h:Hp) (wb nb:Nat) (v:Value) (to:Int) (b:YN) (vs:List Vt):Prop:=
 ∃b3 b4 b5 b7 l w5 w,v=WM 89 [b3,b4,b5,b7]∧ZR o h b3 (.cells [Zp wb].toArray 67)∧ZR o h b4 (.cells [Zp nb].toArray 74) ∧
  ZR o h b5 (.cells (Y7 l w5).toArray 111)∧l.JM=to∧l.b=b∧ZR o h b7 (.cells [w].toArray 79)∧Wz o h w vs
def qD (o:Ow) (h:Hp) (wb nb:Nat) (v:Value) (to:Int) (x:Vt):Prop:=
 ∃b3 b4 b5 l w5,v=WM 94 [b3,b4,b5]∧ZR o h b3 (.cells [Zp wb].toArray 67)∧ZR o h b4 (.cells [Zp nb].toArray 74) ∧
  ZR o h b5 (.cells (Y7 l w5).toArray 111)∧l.JM=to∧l.v=x
theorem qC.Zd {S:Tg→Prop} {o o':Ow} {h h':Hp} {wb nb:Nat} {v:Value} {to:Int} {b:YN} {vs:List Vt} (s:qC o h wb nb v to b vs) (k:Kp S o h o' h'):qC o' h' wb nb v to b vs:=by
 obtain⟨b3,b4,b5,b7,l,w5,w,h1,h2,h3,h4,h5,h6,h7,h8⟩:=s;exact⟨b3,b4,b5,b7,l,w5,w,h1,h2.Zd k,h3.Zd k,h4.Zd k,h5,h6,h7.Zd k,h8.Zd k⟩
theorem qD.Zd {S:Tg→Prop} {o o':Ow} {h h':Hp} {wb nb:Nat} {v:Value} {to:Int} {x:Vt} (s:qD o h wb nb v to x) (k:Kp S o h o' h'):qD o' h' wb nb v to x:=by
 obtain⟨b3,b4,b5,l,w5,h1,h2,h3,h4,h5,h6⟩:=s;exact⟨b3,b4,b5,l,w5,h1,h2.Zd k,h3.Zd k,h4.Zd k,h5,h6⟩
def SE (o:Ow) (h:Hp) (b:Nat) (a:QK):Prop:=∃w,ZR o h b (.cells (YT a.p w).toArray 81)∧Wz o h w a.l
theorem SE.Zd {S:Tg→Prop} {o o':Ow} {h h':Hp} {b:Nat} {a:QK} (s:SE o h b a) (k:Kp S o h o' h'):SE o' h' b a:=by
 obtain⟨w,h1,h2⟩:=s;exact⟨w,h1.Zd k,h2.Zd k⟩
def ZgU (o:Ow) (h:Hp) (i nb:Nat) (ra:Option RA) (v:Value) (a:QK) (vs:List Vt) (cur:Bool):Prop:=
 ∃b6 b4 b7 b5 w rb,v=WM 98 [b6,b4,b7,b5]∧SE o h b6 a∧ZR o h b4 (.cells [Zp nb].toArray 74)∧ZR o h b7 (.cells [w].toArray 79)∧Wz o h w vs ∧
  ZR o h b5 (.cells [Zp rb].toArray 82) ∧
  (if cur=true then ∃a,ra=some a∧a.rb=rb else ∃cs pb pv,Q2 o (.Xo i) h rb (.cells cs 138)∧cs[2]? = some (.map (some pb))∧QG o (.Xo i) h pb pv)
def UD (o:Ow) (h:Hp) (wb i nb:Nat) (ra:Option RA):Value→Option Bz→Prop
 | v,none=>v=.nilFunc
 | v,some (.Lf a to b vs)=>∃b6 b4 b9 u,v=WM 91 [b6,b4,b9]∧SE o h b6 a∧ZR o h b4 (.cells [Zp nb].toArray 74)∧ZR o h b9 (.cells [u].toArray 1)∧qC o h wb nb u to b vs
 | v,some (.MO a to x)=>∃b6 b4 b9 u,v=WM 97 [b6,b4,b9]∧SE o h b6 a∧ZR o h b4 (.cells [Zp nb].toArray 74)∧ZR o h b9 (.cells [u].toArray 1)∧qD o h wb nb u to x
 | v,some (.own a vs cur)=>ZgU o h i nb ra v a vs cur
theorem UD.Zd {S:Tg→Prop} {o o':Ow} {h h':Hp} {wb i nb:Nat} {ra:Option RA} {v:Value} {p:Option Bz} (s:UD o h wb i nb ra v p) (k:Kp S o h o' h') (hn:¬S (.Xo i)):UD o' h' wb i nb ra v p:=by
 match p,s with
 | none,s=>exact s
 | some (.Lf a to b vs),⟨b6,b4,b9,u,h1,h2,h3,h4,h5⟩=>exact⟨b6,b4,b9,u,h1,h2.Zd k,h3.Zd k,h4.Zd k,h5.Zd k⟩
 | some (.MO a to x),⟨b6,b4,b9,u,h1,h2,h3,h4,h5⟩=>exact⟨b6,b4,b9,u,h1,h2.Zd k,h3.Zd k,h4.Zd k,h5.Zd k⟩
 | some (.own a vs cur),⟨b6,b4,b7,b5,w,rb,h1,h2,h3,h4,h5,h6,h7⟩=>
  refine⟨b6,b4,b7,b5,w,rb,h1,h2.Zd k,h3.Zd k,h4.Zd k,h5.Zd k,h6.Zd k,?_⟩
  cases cur with
  | true=>exact h7
  | false=>
   obtain⟨cs,pb,pv,g1,g2,g3⟩:=h7;exact⟨cs,pb,pv,g1.Zd k hn,g2,g3.Zd k hn⟩
structure NA where
 data:Value
 YP:Value
 Zj:Option RA
 known:Nat
 log:Value
 queue:Value
 waiting:Value
 inbox:Value
 ZB:Value
def UN (n:Nd) (a:NA):List Value:=[.int .i64 n.me,.bool n.up,a.data,.int .i64 n.Xg,.int .i64 n.own.p.r,.int .i64 n.own.p.n,a.YP,.int .i64 n.heard.r,.int .i64 n.heard.n,Pz a.Zj,.map (some a.known),a.log]++(n.store++[a.queue,a.waiting,a.inbox,a.ZB,.int .i64 n.Xr])
def Xp (n:Nd) (a:NA):Obj:=.cells (UN n a).toArray 85
structure OV (cs:List Value):Prop where
 fit:YB XK cs=true
 num:∀i,i<32→nth cs i=some (.int .i64 (ci cs i))
 yes:∀i,32≤i→i<40→nth cs i=some (.bool (cb cs i))
structure ZV (o:Ow) (h:Hp) (wb i nb:Nat) (a:NA) (n:Nd):Prop where
 data:VC o h a.data n.data
 YP:Wz o h a.YP n.own.l
 Zj:wZ o i h a.Zj n.Zj
 known:QG o (.known i) h a.known (UJ Vi n.known)
 log:QT o (.log i) h a.log n.log
 queue:QT o (.queue i) h a.queue n.queue
 waiting:QT o (.waiting i) h a.waiting n.waiting
 inbox:Q0 o (.inbox i) h a.inbox n.inbox
 ZB:UD o h wb i nb a.Zj a.ZB n.ZB
 store:OV n.store
structure ZM (o:Ow) (h:Hp) (wb i nb:Nat) (a:NA) (n:Nd):Prop where
 ZG:Q2 o (.node i) h nb (Xp n a)
 pt:ZV o h wb i nb a n
theorem NW {i:Nat} {t:Tg} (h:XQ i t):t.of=some i:=by
 rcases h with rfl|rfl|rfl|rfl|⟨s,rfl⟩<;>rfl
section
variable {S:Tg→Prop} {o o':Ow} {h h':Hp} {wb i nb:Nat} {a:NA} {n:Nd}
theorem ZV.Zd (s:ZV o h wb i nb a n) (k:Kp S o h o' h') (hn:∀t,S t→t.of≠some i∨t=.node i):ZV o' h' wb i nb a n:=by
 have q:∀t:Tg,t.of=some i→t ≠ .node i→¬S t:=fun t ht YA hs=>(hn t hs).elim (fun q=>q ht) YA;exact⟨s.data.Zd k,s.YP.Zd k,s.Zj.Zd k (fun t ht=>q t (NW ht) (by rcases ht with rfl|rfl|rfl|rfl|⟨z,rfl⟩<;>intro e<;>cases e)),s.known.Zd k (q _ rfl (by intro e;cases e)),s.log.Zd k (q _ rfl (by intro e;cases e)),s.queue.Zd k (q _ rfl (by intro e;cases e)),s.waiting.Zd k (q _ rfl (by intro e;cases e)),s.inbox.Zd k (q _ rfl (by intro e;cases e)),s.ZB.Zd k (q _ rfl (by intro e;cases e)),s.store⟩
theorem ZM.Zd (s:ZM o h wb i nb a n) (k:Kp S o h o' h') (hn:∀t,S t→t.of≠some i):ZM o' h' wb i nb a n:=
 ⟨s.ZG.Zd k fun q=>hn _ q rfl,s.pt.Zd k fun t ht=>.inl (hn t ht)⟩
theorem ZV.put (s:ZV o h wb i nb a n) (d:UE o h) {x:Obj} (b:Q2 o (.node i) h nb x):ZM o (h.setIfInBounds nb (Xp n a)) wb i nb a n:=
 ⟨⟨b.1,Zy b.2⟩,s.Zd ((Kp.refl d (fun t=>t=.node i)).set b.1 rfl _) fun t ht=>.inr ht⟩
theorem ZV.write (s:ZV o h wb i nb a n) (d:UE o h) {x:Obj} (b:Q2 o (.node i) h nb x) {e:Option Hp} (w:e=some (h.setIfInBounds nb (Xp n a))):∃g,e=some g∧ZM o g wb i nb a n∧Kp (fun t=>t=.node i) o h o g:=
 ⟨_,w,s.put d b,(Kp.refl d (fun t=>t=.node i)).set b.1 rfl _⟩
theorem ZV.Gy (s:ZV o h wb i nb a n) (k:Kp (fun t=>t=.queue i) o h o' h') {v:Value} {l:List Cm} (hv:QT o' (.queue i) h' v l):ZV o' h' wb i nb { a with queue:=v } { n with queue:=l }:=
 ⟨s.data.Zd k,s.YP.Zd k,s.Zj.Zd k (fun t ht=>by rcases ht with rfl|rfl|rfl|rfl|⟨z,rfl⟩<;>intro e<;>cases e),s.known.Zd k (by intro e;cases e),s.log.Zd k (by intro e;cases e),hv,s.waiting.Zd k (by intro e;cases e),s.inbox.Zd k (by intro e;cases e),s.ZB.Zd k (by intro e;cases e),s.store⟩
theorem ZV.xd (s:ZV o h wb i nb a n) (k:Kp (fun t=>t=.log i) o h o' h') {v:Value} {l:List Cm} (hv:QT o' (.log i) h' v l):ZV o' h' wb i nb { a with log:=v } { n with log:=l }:=
 ⟨s.data.Zd k,s.YP.Zd k,s.Zj.Zd k (fun t ht=>by rcases ht with rfl|rfl|rfl|rfl|⟨z,rfl⟩<;>intro e<;>cases e),s.known.Zd k (by intro e;cases e),hv,s.queue.Zd k (by intro e;cases e),s.waiting.Zd k (by intro e;cases e),s.inbox.Zd k (by intro e;cases e),s.ZB.Zd k (by intro e;cases e),s.store⟩
theorem ZV.MR (s:ZV o h wb i nb a n) (k:Kp (fun t=>t=.waiting i) o h o' h') {v:Value} {l:List Cm} (hv:QT o' (.waiting i) h' v l):ZV o' h' wb i nb { a with waiting:=v } { n with waiting:=l }:=
 ⟨s.data.Zd k,s.YP.Zd k,s.Zj.Zd k (fun t ht=>by rcases ht with rfl|rfl|rfl|rfl|⟨z,rfl⟩<;>intro e<;>cases e),s.known.Zd k (by intro e;cases e),s.log.Zd k (by intro e;cases e),s.queue.Zd k (by intro e;cases e),hv,s.inbox.Zd k (by intro e;cases e),s.ZB.Zd k (by intro e;cases e),s.store⟩
theorem ZV.jy (s:ZV o h wb i nb a n) (k:Kp (fun t=>t=.inbox i) o h o' h') {v:Value} {l:List Xj} (hv:Q0 o' (.inbox i) h' v l):ZV o' h' wb i nb { a with inbox:=v } { n with inbox:=l }:=
 ⟨s.data.Zd k,s.YP.Zd k,s.Zj.Zd k (fun t ht=>by rcases ht with rfl|rfl|rfl|rfl|⟨z,rfl⟩<;>intro e<;>cases e),s.known.Zd k (by intro e;cases e),s.log.Zd k (by intro e;cases e),s.queue.Zd k (by intro e;cases e),s.waiting.Zd k (by intro e;cases e),hv,s.ZB.Zd k (by intro e;cases e),s.store⟩
theorem ZV.jz (s:ZV o h wb i nb a n) (k:Kp (fun t=>t=.known i) o h o' h') {v:Nat} {l:List (Int × Cm)} (hv:QG o' (.known i) h' v (UJ Vi l)):ZV o' h' wb i nb { a with known:=v } { n with known:=l }:=
 ⟨s.data.Zd k,s.YP.Zd k,s.Zj.Zd k (fun t ht=>by rcases ht with rfl|rfl|rfl|rfl|⟨z,rfl⟩<;>intro e<;>cases e),hv,s.log.Zd k (by intro e;cases e),s.queue.Zd k (by intro e;cases e),s.waiting.Zd k (by intro e;cases e),s.inbox.Zd k (by intro e;cases e),s.ZB.Zd k (by intro e;cases e),s.store⟩
theorem ZV.QH (s:ZV o h wb i nb a n) (k:Kp (XQ i) o h o' h') {ra ra':RA} {r':JF} (hr:a.Zj=some ra) (bu:ra'.rb=ra.rb) (hv:YR o' i h' ra' r'):ZV o' h' wb i nb { a with Zj:=some ra' } { n with Zj:=some r' }:=by
 have q:∀t,t.of=some i→(¬ ∃u,t=u∧XQ i u)→¬XQ i t:=fun t _ h2 h3=>h2 ⟨t,rfl,h3⟩;have e:∀t:Tg,(t=.known i∨t=.log i∨t=.queue i∨t=.waiting i∨t=.inbox i∨t=.Xo i)→¬XQ i t:=by
  intro t ht hr;rcases ht with rfl|rfl|rfl|rfl|rfl|rfl<;>rcases hr with e|e|e|e|⟨s,e⟩<;>cases e
 refine⟨s.data.Zd k,s.YP.Zd k,hv,s.known.Zd k (e _ (by simp)),s.log.Zd k (e _ (by simp)),s.queue.Zd k (e _ (by simp)),s.waiting.Zd k (e _ (by simp)),s.inbox.Zd k (e _ (by simp)),?_,s.store⟩;have hp:=s.ZB.Zd k (e _ (by simp));show UD o' h' wb i nb (some ra') a.ZB n.ZB;rw[hr]at hp
 match hn:n.ZB,hp with
 | none,hp=>exact hp
 | some (.Lf _ _ _ _),hp=>exact hp
 | some (.MO _ _ _),hp=>exact hp
 | some (.own _ _ cur),⟨b6,b4,b7,b5,w,rb,h1,h2,h3,h4,h5,h6,h7⟩=>
  refine⟨b6,b4,b7,b5,w,rb,h1,h2,h3,h4,h5,h6,?_⟩
  cases cur with
  | false=>exact h7
  | true=>
   obtain⟨c,hc,hcr⟩:=h7;obtain rfl:=Option.some.inj hc;exact⟨ra',rfl,bu.trans hcr⟩
end
structure WA where
 nodes:Value
 Zn:Value
 told:Value
def Xm (bad:Nat→Int) (a:WA):List Value:=[a.nodes,a.Zn,.int .i64 0,.bool false,.bool false,.bool false,.bool false,.bool false,.slice none 0 0,.int .i64 (bad 0),.int .i64 (bad 1),.int .i64 (bad 2),.int .i64 (bad 3),.int .i64 (bad 4),a.told]
structure ZH (o:Ow) (h:Hp) (wb:Nat) (nb:Nat→Nat) (a:WA) (fl:List Xj) (bad:Nat→Int) (told:List Rr):Prop where
 ZG:Q2 o .world h wb (.cells (Xm bad a).toArray 73)
 nodes:YG o .nodes 74 1 h a.nodes 5 [Zp (nb 0),Zp (nb 1),Zp (nb 2),Zp (nb 3),Zp (nb 4)]
 Zn:Q0 o .Zn h a.Zn fl
 told:YG o .told 132 5 h a.told told.length (Zz Il told)
theorem ZH.Zd {S:Tg→Prop} {o o':Ow} {h h':Hp} {wb:Nat} {nb:Nat→Nat} {a:WA} {fl:List Xj} {bad:Nat→Int} {told:List Rr} (s:ZH o h wb nb a fl bad told) (k:Kp S o h o' h') (hn:∀t,S t→t.of≠none):ZH o' h' wb nb a fl bad told:=
 ⟨s.ZG.Zd k fun q=>hn _ q rfl,s.nodes.Zd k fun q=>hn _ q rfl,s.Zn.Zd k fun q=>hn _ q rfl,s.told.Zd k fun q=>hn _ q rfl⟩
def QM (t:Tg):Prop:=False
section
variable {S:Tg→Prop} {o o':Ow} {h h':Hp}
theorem ZE (d:UE o h) (b:Zf h.size h h'):Kp QM o h o h':=Kp.Ks d b _
theorem ZF (k:Kp QM o h o' h'):Kp S o h o' h':=k.mono fun _ q=>q.elim
theorem ZM.still {wb i nb:Nat} {a:NA} {n:Nd} (s:ZM o h wb i nb a n) (k:Kp QM o h o' h'):ZM o' h' wb i nb a n:=s.Zd k fun _ q=>q.elim
theorem ZH.still {wb:Nat} {nb:Nat→Nat} {a:WA} {fl:List Xj} {bad:Nat→Int} {told:List Rr} (s:ZH o h wb nb a fl bad told) (k:Kp QM o h o' h'):ZH o' h' wb nb a fl bad told:=s.Zd k fun _ q=>q.elim
theorem ZY (d:UE o h) (x:Obj):Kp QM o h o (h.push x):=(Kp.refl d _).push x
end
structure BA (o:Ow) (h:Hp):Prop where
 tk:Tk h
 tn:Dh 1 niv T5 h
 fk:o 0=none
 fn:o 1=none
theorem Eb {S:Tg→Prop} {o o':Ow} {h h':Hp} {g:Nat} {f:Nat→Value} {l:List Nat} (t:Dh g f l h) (hf:o g=none) (k:Kp S o h o' h'):Dh g f l h'∧o' g=none:=by
 obtain⟨h1,h2⟩:=k.Zd g t.1 fun t ht=>by rw[hf]at ht;cases ht
 refine⟨⟨Nat.lt_of_lt_of_le t.1 k.size,fun i hi=>?_⟩,by rw[h2,hf]⟩;have:=t.2 i hi;unfold hc at this ⊢;rw[h1];exact this
theorem BA.Zd {S:Tg→Prop} {o o':Ow} {h h':Hp} (t:BA o h) (k:Kp S o h o' h'):BA o' h':=
 ⟨(Eb t.tk t.fk k).1,(Eb t.tn t.fn k).1,(Eb t.tk t.fk k).2,(Eb t.tn t.fn k).2⟩
theorem OV.len {cs:List Value} (s:OV cs):cs.length=40:=by
 have:=Z6 s.fit;rw[this];rfl
theorem OV.one {cs:List Value} (s:OV cs):cs.all Z7=true:=VV s.fit
theorem qE (a:Option RA):Z7 (Pz a)=true:=by cases a<;>rfl
section
variable {h:Hp} {nb:Nat} {n:Nd} {a:NA}
structure Zcf (h:Hp) (nb:Nat) (n:Nd) (a:NA):Prop where
 me:hc h ⟨nb,0,none⟩=some (.int .i64 n.me)
 up:hc h ⟨nb,1,none⟩=some (.bool n.up)
 tape:rd h ⟨nb,2,none⟩ 2=some [a.data,.int .i64 n.Xg]
 own:rd h ⟨nb,4,none⟩ 3=some [.int .i64 n.own.p.r,.int .i64 n.own.p.n,a.YP]
 Ct:rd h ⟨nb,4,none⟩ 2=some [.int .i64 n.own.p.r,.int .i64 n.own.p.n]
 ZpG:hc h ⟨nb,4,none⟩=some (.int .i64 n.own.p.r)
 ZBN:hc h ⟨nb,5,none⟩=some (.int .i64 n.own.p.n)
 YP:hc h ⟨nb,6,none⟩=some a.YP
 heard:rd h ⟨nb,7,none⟩ 2=some [.int .i64 n.heard.r,.int .i64 n.heard.n]
 Zcg:hc h ⟨nb,7,none⟩=some (.int .i64 n.heard.r)
 Zj:hc h ⟨nb,9,none⟩=some (Pz a.Zj)
 known:hc h ⟨nb,10,none⟩=some (.map (some a.known))
 log:hc h ⟨nb,11,none⟩=some a.log
 store:rd h ⟨nb,12,none⟩ 40=some n.store
 queue:hc h ⟨nb,52,none⟩=some a.queue
 waiting:hc h ⟨nb,53,none⟩=some a.waiting
 inbox:hc h ⟨nb,54,none⟩=some a.inbox
 ZB:hc h ⟨nb,55,none⟩=some a.ZB
 Xr:hc h ⟨nb,56,none⟩=some (.int .i64 n.Xr)
theorem Gz (hs:n.store.length=40):(UN n a).length=57:=by
 unfold UN;rw[List.length_append,List.length_append,hs];rfl
theorem SF (hs:n.store.length=40) (k:Nat):nth (UN n a) (52+k)=nth [a.queue,a.waiting,a.inbox,a.ZB,.int .i64 n.Xr] k:=by
 unfold UN;rw[Yh,Yh,List.getElem?_append_right (by simp;omega),List.getElem?_append_right (by simp;omega)]
 congr 1
 simp;omega
theorem ZA (H:h[nb]? = some (Xp n a)) (hs:n.store.length=40):Zcf h nb n a:=by
 have l57:=Gz (a:=a) hs;have c:∀k,hc h ⟨nb,k,none⟩=nth (UN n a) k:=fun k=>Zh H;have r:∀k m,k+m≤57→rd h ⟨nb,k,none⟩ m=some (((UN n a).drop k).take m):=fun k m hk=>Z9 H (by rw[l57];exact hk);refine⟨c 0,c 1,r 2 2 (by omega),r 4 3 (by omega),r 4 2 (by omega),c 4,c 5,c 6,r 7 2 (by omega),c 7,c 9,c 10,c 11,?_,(c 52).trans (SF hs 0),(c 53).trans (SF hs 1),(c 54).trans (SF hs 2),(c 55).trans (SF hs 3),(c 56).trans (SF hs 4)⟩;rw[r 12 40 (by omega)]
 congr 1
 unfold UN;rw[List.drop_append_of_le_length (by simp)];simp only[List.drop_succ_cons,List.drop_nil,List.drop_zero,List.nil_append];rw[←hs,List.take_left'];rfl
structure Zch (h:Hp) (nb:Nat) (n:Nd) (a:NA):Prop where
 up:∀v,JJ h ⟨nb,1,none⟩ (.bool v)=some (h.setIfInBounds nb (Xp { n with up:=v } a))
 tape:∀d s,Z7 d=true→wr h ⟨nb,2,none⟩ [d,.int .i64 s]=some (h.setIfInBounds nb (Xp { n with Xg:=s } { a with data:=d }))
 own:∀r k w,Z7 w=true→wr h ⟨nb,4,none⟩ [.int .i64 r,.int .i64 k,w]=some (h.setIfInBounds nb (Xp { n with own:=⟨⟨r,k⟩,n.own.l⟩ } { a with YP:=w }))
 heard:∀r k,wr h ⟨nb,7,none⟩ [.int .i64 r,.int .i64 k]=some (h.setIfInBounds nb (Xp { n with heard:=⟨r,k⟩ } a))
 Zj:∀b,JJ h ⟨nb,9,none⟩ (Pz b)=some (h.setIfInBounds nb (Xp n { a with Zj:=b }))
 log:∀v,Z7 v=true→JJ h ⟨nb,11,none⟩ v=some (h.setIfInBounds nb (Xp n { a with log:=v }))
 store:∀cs:List Value,cs.length=40→cs.all Z7=true→wr h ⟨nb,12,none⟩ cs=some (h.setIfInBounds nb (Xp { n with store:=cs } a))
 queue:∀v,Z7 v=true→JJ h ⟨nb,52,none⟩ v=some (h.setIfInBounds nb (Xp n { a with queue:=v }))
 waiting:∀v,Z7 v=true→JJ h ⟨nb,53,none⟩ v=some (h.setIfInBounds nb (Xp n { a with waiting:=v }))
 inbox:∀v,Z7 v=true→JJ h ⟨nb,54,none⟩ v=some (h.setIfInBounds nb (Xp n { a with inbox:=v }))
 ZB:∀v,Z7 v=true→JJ h ⟨nb,55,none⟩ v=some (h.setIfInBounds nb (Xp n { a with ZB:=v }))
 Xr:∀k,JJ h ⟨nb,56,none⟩ (.int .i64 k)=some (h.setIfInBounds nb (Xp { n with Xr:=k } a))
theorem set_tail (pre mid l:List Value) (k:Nat) (v:Value) (hk:pre.length+mid.length=52):(pre++(mid++l)).set (52+k) v=pre++(mid++l.set k v):=by
 rw[List.set_append_right _ _ (by omega),List.set_append_right _ _ (by omega)]
 congr 3
 omega
theorem Y0 (H:h[nb]? = some (Xp n a)) (hs:n.store.length=40):Zch h nb n a:=by
 have l57:=Gz (a:=a) hs;have w1:∀(k:Nat) (v:Value) (n':Nd) (a':NA),k<57→Z7 v=true→(UN n a).set k v=UN n' a'→JJ h ⟨nb,k,none⟩ v=some (h.setIfInBounds nb (Xp n' a')):=fun k v n' a' hk hv he=>by
  rw[YC H,if_pos ⟨by rw[l57];exact hk,hv⟩,he];rfl
 have w:∀(k:Nat) (vs:List Value) (n':Nd) (a':NA),k+vs.length≤57→vs.all Z7=true→Yw (UN n a) k vs=UN n' a'→wr h ⟨nb,k,none⟩ vs=some (h.setIfInBounds nb (Xp n' a')):=fun k vs n' a' hk hv he=>by
  rw[ZU H,if_pos ⟨by rw[l57];exact hk,hv⟩,he];rfl
 refine⟨fun v=>w1 _ _ _ _ (by omega) rfl rfl,fun d s hd=>w _ _ _ _ (by simp) (by rw[List.all_cons,hd];rfl) rfl,fun r k v hv=>w _ _ _ _ (by simp) (by simp only[List.all_cons,hv];rfl) rfl,fun r k=>w _ _ _ _ (by simp) (by simp[Z7]) rfl,fun b=>w1 _ _ _ _ (by omega) (qE b) rfl,fun v hv=>w1 _ _ _ _ (by omega) hv rfl,fun cs hl Xc=>w _ _ _ _ (by omega) Xc ?_,
  fun v hv=>w1 _ _ _ _ (by omega) hv ?_,fun v hv=>w1 _ _ _ _ (by omega) hv ?_,fun v hv=>w1 _ _ _ _ (by omega) hv ?_,fun v hv=>w1 _ _ _ _ (by omega) hv ?_,fun k=>w1 _ _ _ _ (by omega) rfl ?_⟩
 ·unfold UN;exact WV rfl (by rw[hl,hs])
 all_goals
  unfold UN
  first
   | exact set_tail _ _ _ 0 _ (by rw[hs];rfl)
   | exact set_tail _ _ _ 1 _ (by rw[hs];rfl)
   | exact set_tail _ _ _ 2 _ (by rw[hs];rfl)
   | exact set_tail _ _ _ 3 _ (by rw[hs];rfl)
   | exact set_tail _ _ _ 4 _ (by rw[hs];rfl)
end
section
variable {h:Hp} {wb:Nat} {bad:Nat→Int} {a:WA}
structure xe (h:Hp) (wb:Nat) (bad:Nat→Int) (a:WA):Prop where
 nodes:hc h ⟨wb,0,none⟩=some a.nodes
 Zn:hc h ⟨wb,1,none⟩=some a.Zn
 told:hc h ⟨wb,14,none⟩=some a.told
 out:rd h ⟨wb,2,none⟩ 13=some [.int .i64 0,.bool false,.bool false,.bool false,.bool false,.bool false,.slice none 0 0,.int .i64 (bad 0),.int .i64 (bad 1),.int .i64 (bad 2),.int .i64 (bad 3),.int .i64 (bad 4),a.told]
 Ec:∀v,Z7 v=true→JJ h ⟨wb,1,none⟩ v=some (h.setIfInBounds wb (.cells (Xm bad { a with Zn:=v }).toArray 73))
 Zaa:∀v,Z7 v=true→JJ h ⟨wb,14,none⟩ v=some (h.setIfInBounds wb (.cells (Xm bad { a with told:=v }).toArray 73))
 Zci:∀v,Z7 v=true→JJ h ⟨wb,0,none⟩ v=some (h.setIfInBounds wb (.cells (Xm bad { a with nodes:=v }).toArray 73))
theorem Y8 (H:h[wb]? = some (.cells (Xm bad a).toArray 73)):xe h wb bad a:=by
 refine⟨Zh H,Zh H,Zh H,Z9 H (by simp[Xm]),fun v hv=>?_,fun v hv=>?_,fun v hv=>?_⟩
 all_goals
  rw[YC H,if_pos ⟨by simp[Xm],hv⟩];rfl
end
theorem Im.isSlice {o:Ow} {n:Nat} {h:Hp} {v:Value} {m:Nat} {cs:List Value} (s:Im o n h v m cs):∃p c,v=.slice p m c:=by
 obtain⟨p,c,h,_⟩:=s.fits;exact⟨p,c,h⟩
theorem Ur {α:Type} (enc:α→List Value) (x:α):Zz enc [x]=enc x:=by simp[Zz]
def eQ (t:Tg):Prop:=t=.world∨t=.Zn
theorem UY (T:World) (h:Hp) (o:Ow) (wb nb:Nat) (Yb:Nat→Nat) (me:Nat) (YO:WA) (fl:List Xj) (bad:Nat→Int) (told:List Rr) (to:Int) (l:Xj) (w:Value) (d:UE o h)
  (W:ZH o h wb Yb YO fl bad told) (Io:hc h ⟨nb,0,none⟩=some (.int .i64 me)) (WD:nb<h.size) (iv:Wz o h w l.vs) (Ys:fl.length≤1000000000000) :
  Zc Tryz.prog T 73 #[Zp wb,Zp nb,.int .i64 to,.agg (Y7 l w).toArray] h fun v' h'=>∃o' XA,Kp eQ o h o' h'∧(∀b,b<h.size→o' b=o b)∧ZH o' h' wb Yb XA (fl++[⟨l.kind,me,to,l.b,l.v,l.vs⟩]) bad told:=by
 obtain⟨p,c,hw⟩:=iv.isSlice;have Xc:Z7 w=true:=by rw[hw];rfl
 have Ed:=Za W.ZG.2;have R0:=Y8 W.ZG.2;refine Zc.Zk (args:=[_,_,_,_]) Tryz.func73 rfl rfl rfl rfl ?_;unfold Zp Y7;have e1:nb≠h.size:=by omega
 have e2:wb≠h.size:=by omega
 simp -implicitDefEqProofs only[go_sem,↓reduceIte,SV,e1,Io];refine VS.z (h.size+1) [7,10] (.p 0 (.p 1 (.p 2 (.p 3 (.q 4 (.q 5 (.s 6 (.w 7 (.p 8 (.p 9 (.w 10 .nil))))))))))) mixed (by kernel_rfl) ?_;simp -implicitDefEqProofs only[go_sem,↓reduceIte,SV,dk,e1,e2,Io,R0.Zn,Ed];obtain⟨h1,YK⟩:=Zx (h.push (.cells (Y7 ⟨l.kind,me,to,l.b,l.v,l.vs⟩ w).toArray 111):Hp);have s1:h1.size=h.size+1:=by rw[YK];simp
 obtain⟨h2,Uz⟩:=Zx (h1.push (.cells (Y7 ⟨l.kind,me,to,l.b,l.v,l.vs⟩ w).toArray 111):Hp);have ee:((h.push (.cells (Y7 ⟨l.kind,me,to,l.b,l.v,l.vs⟩ w).toArray 111)).push (.cells (Y7 ⟨l.kind,me,to,l.b,l.v,l.vs⟩ w).toArray 111))=h2:=by rw[Uz,YK]
 unfold Y7 at ee;simp only at ee;refine⟨Zf.push (by simp) _,?_⟩;rw[ee];have k2:Kp (fun _=>False) o h o h2:=by rw[Uz,YK];exact ((Kp.refl d _).push _).push _
 have W2:=W.Zd k2 (fun _ q=>q.elim);have lq:=iv.Zd k2;obtain⟨xs,QL,Pe,ax⟩:=W2.Zn;have FQ:xs.length=fl.length:=by rw[←QL,List.length_map]
 have src:Sl 14 h2 (.slice (some ⟨h.size+1,0,none⟩) 1 1) 1 (Y7 ⟨l.kind,me,to,l.b,l.v,l.vs⟩ w):=by
  rw[Uz,←s1];exact Sl.made (by simp[Y7]) 1
 refine Jf (E:=111) (n:=14) (bytes:=128) (k:=1) dB Tryz.underlying71 nO dE rfl zq Pe k2.ZX src (by rw[Y7,List.all_eq_true];intro x hx;simp at hx;rcases hx with rfl|rfl|rfl|rfl|rfl|rfl|rfl|rfl|rfl|rfl|rfl|rfl|rfl|rfl<;>first|rfl|exact Xc) (by omega) (by omega) ?_;intro v' o3 h3 w3 k3 q3;have b3:=W2.ZG.Zd k3 (by intro q;cases q);have R3:=Y8 b3.2;obtain⟨p3,c3,rfl,_⟩:=w3.isSlice;have hw3:=Za b3.2;have e3:=R3.Ec (.slice p3 (xs.length+1) c3) rfl;simp -implicitDefEqProofs only[go_sem,↓reduceIte,e3];have k4:Kp eQ o h o3 h3:=(k2.mono fun _ q=>q.elim).trans (k3.mono fun u q=>.inr q);have k5:=k4.set b3.1 (.inl rfl) (.cells (Xm bad { YO with Zn:=.slice p3 (xs.length+1) c3 }).toArray 73);have kk:Kp (fun u=>u=.world) o3 h3 o3 (h3.setIfInBounds wb (.cells (Xm bad { YO with Zn:=.slice p3 (xs.length+1) c3 }).toArray 73)):=(Kp.refl k3.ZX (fun u=>u=.world)).set b3.1 rfl _;refine⟨o3,{ YO with Zn:=.slice p3 (xs.length+1) c3 },k5,fun b hb=>q3 b (by have:=k2.size;omega),⟨b3.1,Zy b3.2⟩,(W2.nodes.Zd k3 (by intro q;cases q)).Zd kk (by intro q;cases q),⟨xs++[(⟨l.kind,me,to,l.b,l.v,l.vs⟩,w)],?_,?_,fun x hx=>?_⟩,(W2.told.Zd k3 (by intro q;cases q)).Zd kk (by intro q;cases q)⟩
 ·rw[List.map_append,QL];rfl
 ·have:=w3.Zd kk (by intro q;cases q);rw[Yj,Ur,List.length_append];exact this
 ·rcases List.mem_append.1 hx with hx|hx
  ·exact ((ax x hx).Zd k3).Zd kk
  ·have:x=(⟨l.kind,me,to,l.b,l.v,l.vs⟩,w):=by simpa using hx
   subst this;exact (lq.Zd k3).Zd kk
@[go_sem] theorem ZpI (x:Cm):YB [some .i64,some .i64,some .i64,some .i64,some .i64] x.C=true:=rfl
@[go_sem] theorem ZpJ (x y:Cm):leq x.C y.C=decide (x=y):=by
 obtain⟨a,b,c,d,e⟩:=x;obtain⟨a',b',c',d',e'⟩:=y;unfold Js.C Qp;rw[Bool.eq_iff_iff];simp[leq,ceq,Js.mk.injEq]
@[go_sem] theorem OW (x:Cm):x.C.length=5:=rfl
@[go_sem] theorem qF (x:Cm):x.C.all Z7=true:=rfl
@[go_sem] theorem Zku (x:Cm):Yw [.int .i64 0,.int .i64 0,.int .i64 0,.int .i64 0,.int .i64 0] 0 x.C=x.C:=rfl
theorem JY {h:Hp} {v:Value} {l:List Cm} (s:Ts Js.C 5 h v l):∃p c,v=.slice p l.length c∧(l≠[]→∃b o,p=some ⟨b,o,none⟩∧b<h.size∧∀i (hi:i<l.length),rd h ⟨b,o+i*5,none⟩ 5=some (l[i]).C):=by
 obtain⟨p,c,hv,hh⟩:=s.open OW (by decide);refine⟨p,c,hv,fun YA=>?_⟩;obtain⟨b,o,h1,h2,h3⟩:=hh YA;exact⟨b,o,h1,h2,fun i hi=>(h3 i hi).rd (by simp[Js.C,Qp]) rfl⟩
def Tj (l:List Cm) (x:Cm):Int:=if x∈l then (l.idxOf x:Int) else -1
theorem qG {l:List Cm} {x:Cm} {i:Nat} (hi:i<l.length) (he:l[i]=x) (hn:∀j (hj:j<l.length),j<i→l[j]≠x):l.idxOf x=i:=by
 have hx:x∈l:=he▸List.getElem_mem hi;have h1:l.idxOf x<l.length:=List.idxOf_lt_length_of_mem hx;have h2:l[l.idxOf x]=x:=List.getElem_idxOf h1;rcases Nat.lt_trichotomy (l.idxOf x) i with h|h|h
 ·exact absurd h2 (hn _ h1 h)
 ·exact h
 ·have:=List.not_of_lt_findIdx (p:=(· == x)) (xs:=l) (i:=i) h
  simp[he]at this
theorem eW {l:List Cm} {x:Cm} {i:Nat} (hi:i<l.length) (he:l[i]=x) (hn:∀j (hj:j<l.length),j<i→l[j]≠x):Tj l x=i:=by
 unfold Tj;rw[if_pos (he▸List.getElem_mem hi),qG hi he hn]
theorem GA {l:List Cm} {x:Cm} (hn:∀j (hj:j<l.length),l[j]≠x):Tj l x = -1:=by
 unfold Tj;rw[if_neg fun hm=>by obtain⟨j,hj,he⟩:=List.getElem_of_mem hm;exact hn j hj he]
theorem OX (l:List Cm) (x:Cm):0≤Tj l x↔x∈l:=by
 unfold Tj;split
 ·rename_i h;exact⟨fun _=>h,fun _=>by omega⟩
 ·rename_i h;exact⟨fun q=>by omega,fun q=>absurd q h⟩
theorem Ip (T:World) (h:Hp) (v:Value) (l:List Cm) (x:Cm) (s:Ts Js.C 5 h v l) (hl:l.length≤4611686018427387904) :
  Zc Tryz.prog T 45 #[v,Vi x] h fun v' h'=>v'=.int .i64 (Tj l x)∧Zf h.size h h':=by
 obtain⟨p,c,rfl,YS⟩:=JY s;refine Zc.Zk (args:=[_,_]) Tryz.func45 rfl rfl rfl rfl ?_;unfold Vi;simp -implicitDefEqProofs only[go_sem,↓reduceIte];obtain⟨h1,YK⟩:=Zx (h.push (.cells x.C.toArray 47):Hp);have b1:Zf h.size h h1:=by rw[YK];exact Zf.push (Nat.le_refl _) _
 have x1:h1[h.size]? = some (.cells x.C.toArray 47):=by rw[YK];exact Zb
 rw[←YK];clear YK;refine VS.ZW (fun F g=>g=h1∧F 0=.slice p l.length c∧F 3=.pointer (some ⟨h.size,0,none⟩)∧F 7=.int .i64 l.length∧∃i:Nat,i≤l.length∧F 8=.int .i64 i∧∀j (hj:j<l.length),j<i→l[j]≠x)
  (fun F _=>l.length-(vi (F 8)).toNat) rfl ⟨rfl,rfl,rfl,rfl,0,by omega,rfl,fun j hj q=>by omega⟩ ?_
 rintro F g ⟨rfl,f0,f3,f7,i,hi,f8,Xk⟩;by_cases ZD:i<l.length
 ·have ZL:(i:Int)<l.length:=by omega
  obtain⟨bb,oo,rfl,Wi,FD⟩:=YS (by intro e;rw[e]at ZD;simp at ZD);have r1:rd g ⟨bb,oo+i*5,none⟩ 5=some (l[i]).C:=by rw[JQ b1 (by exact Wi)];exact FD i ZD
  have r0:rd g ⟨h.size,0,none⟩ 5=some x.C:=Zq x1 rfl;simp -implicitDefEqProofs only[go_sem,↓reduceIte,f0,f3,f7,f8,ZL];refine VS.q mixed (by kernel_rfl) ?_;simp -implicitDefEqProofs only[go_sem,↓reduceIte,f0,f3,f7,f8,ZL,r1,r0];by_cases q:l[i]=x
  ·have e:=eW ZD q Xk;rw[q];simp -implicitDefEqProofs only[go_sem,↓reduceIte,e,b1]
  ·have q':¬x=l[i]:=fun e=>q e.symm;simp -implicitDefEqProofs only[go_sem,↓reduceIte,q',f0,f3,f7,f8];refine⟨⟨rfl,f0,f3,f7,i+1,ZD,rfl,fun j hj WO=>?_⟩,?_⟩
   ·by_cases e:j=i
    ·subst e;exact q
    ·exact Xk j hj (by omega)
   ·simp only[vi,Zi,↓reduceIte,f8];omega
 ·have YJ:¬(i:Int)<l.length:=by omega
  have e:=GA (l:=l) (x:=x) fun j hj=>Xk j hj (by omega);simp -implicitDefEqProofs only[go_sem,↓reduceIte,f7,f8,YJ,e,b1]
theorem VD (T:World) (h:Hp) (v:Value) (l:List Cm) (x:Cm) (s:Ts Js.C 5 h v l) (hl:l.length≤4611686018427387904) :
  Zc Tryz.prog T 47 #[v,Vi x] h fun v' h'=>v'=.bool (decide (x∈l))∧Zf h.size h h':=by
 obtain⟨p,c,rfl,YS⟩:=JY s;refine Zc.Zk (args:=[_,_]) Tryz.func47 rfl rfl rfl rfl ?_;unfold Vi;simp -implicitDefEqProofs only[go_sem,↓reduceIte];refine (Ip T _ _ l x (s.Z2 ((Zf.refl _ _).add _)) hl).use ?_;rintro _ h2 ⟨rfl,b2⟩;have b:Zf h.size h h2:=((Zf.refl _ _).add _).trans (b2.mono (by simp));simp -implicitDefEqProofs only[go_sem,↓reduceIte,OX,b]
theorem GB (T:World) (h:Hp) (b:Nat) (x y:Cm) (hb:h[b]? = some (.cells x.C.toArray 47)) :
  Zc Tryz.prog T 117 #[Vi y,Zp b] h fun v' h'=>v'=.bool (decide (y=x))∧Zf h.size h h':=by
 have ZD:=Za hb;refine Zc.Zk (args:=[_,_]) Tryz.func117 rfl rfl rfl rfl ?_;unfold Vi Zp;have YA:b≠h.size:=by omega
 have r0:rd (h.push (.cells y.C.toArray 47)) ⟨h.size,0,none⟩ 5=some y.C:=Zq Zb rfl;have r1:rd (h.push (.cells y.C.toArray 47)) ⟨b,0,none⟩ 5=some x.C:=Zq (by rw[Zt ZD];exact hb) rfl;simp -implicitDefEqProofs only[go_sem,↓reduceIte,r0,r1]
def MS (b:Nat):Value:=WM 117 [b]
theorem Iq (T:World) (h:Hp) (v:Value) (l:List Cm) (b:Nat) (x:Cm) (s:Ts Js.C 5 h v l) (hb:h[b]? = some (.cells x.C.toArray 47)) (hl:l.length≤4611686018427387904) :
  Zc Tryz.prog T 119 #[v,MS b] h fun v' h'=>v'=.int .i64 (Tj l x)∧Zf h.size h h':=by
 obtain⟨p,c,rfl,YS⟩:=JY s;refine Zc.Zk (args:=[_,_]) Tryz.func119 rfl rfl rfl rfl ?_;have ZD:=Za hb;unfold MS WM;simp -implicitDefEqProofs only[go_sem,↓reduceIte];refine VS.ZW (fun F g=>Zf h.size h g∧F 0=.slice p l.length c∧F 1=MS b∧F 7=.int .i64 l.length∧∃i:Nat,i≤l.length∧F 8=.int .i64 i∧∀j (hj:j<l.length),j<i→l[j]≠x)
  (fun F _=>l.length-(vi (F 8)).toNat) rfl ⟨Zf.refl _ _,rfl,rfl,rfl,0,by omega,rfl,fun j hj q=>by omega⟩ ?_
 rintro F g ⟨hg,f0,f1,f7,i,hi,f8,Xk⟩;by_cases ZD:i<l.length
 ·have ZL:(i:Int)<l.length:=by omega
  obtain⟨bb,oo,rfl,Wi,FD⟩:=YS (by intro e;rw[e]at ZD;simp at ZD);have r1:rd g ⟨bb,oo+i*5,none⟩ 5=some (l[i]).C:=by rw[JQ hg (by exact Wi)];exact FD i ZD
  unfold MS WM at f1;simp only[List.map]at f1;simp -implicitDefEqProofs only[go_sem,↓reduceIte,f0,f1,f7,f8,ZL,r1];refine (GB T g b x l[i] (hg.get (by omega) hb)).use ?_;rintro _ g1 ⟨rfl,b1⟩;have Ni:Zf h.size h g1:=hg.trans (b1.mono hg.size);by_cases q:l[i]=x
  ·have e:=eW ZD q Xk;simp -implicitDefEqProofs only[go_sem,↓reduceIte,q,f8,e,Ni]
  ·simp -implicitDefEqProofs only[go_sem,↓reduceIte,q,f0,f1,f7,f8];refine⟨⟨Ni,f0,f1,f7,i+1,ZD,rfl,fun j hj WO=>?_⟩,?_⟩
   ·by_cases e:j=i
    ·subst e;exact q
    ·exact Xk j hj (by omega)
   ·simp only[vi,Zi,↓reduceIte,f8];omega
 ·have YJ:¬(i:Int)<l.length:=by omega
  have e:=GA (l:=l) (x:=x) fun j hj=>Xk j hj (by omega);simp -implicitDefEqProofs only[go_sem,↓reduceIte,f7,f8,YJ,e,hg]
theorem Cu (T:World) (h:Hp) (o:Ow) (t:Tg) (v:Value) (m i:Nat) (cs:List Value) (s:YG o t 47 5 h v m cs) (d:UE o h) (Xc:cs.all Z7=true) (hi:i<m) (hm:m≤4611686018427387904) :
  Zc Tryz.prog T 120 #[v,.int .i64 i,.int .i64 ((i:Int)+1)] h fun v' h'=>YG o t 47 5 h' v' (m-1) (cs.take (i*5)++cs.drop ((i+1)*5))∧Kp (fun u=>u=t) o h o h':=by
 rcases s with⟨⟨p,rfl⟩,rfl,rfl⟩|⟨b,off,cap,pre,spare,h1,rfl,h3,h4,h5,h6,h7⟩
 ·omega
 refine Zc.Zk (args:=[_,_,_]) Tryz.func120 rfl rfl rfl rfl ?_;have e1:(i:Int)≤m:=by omega
 have e2:(i:Int)+1≤m:=by omega
 have e3:(m:Int)≤cap:=by omega
 have e4:(i:Int)≠i+1:=by omega
 have e5:((i:Int)+1).toNat=i+1:=by omega
 have e6:(0:Int)≤i+1:=by omega
 have e7:(i:Int)≤i+1:=by omega
 have e8:(i:Int)≤cap:=by omega
 have c0:cap≠0:=by omega
 simp -implicitDefEqProofs only[go_sem,↓reduceIte,e1,e2,e3,e4,e5,e6,e7,e8];refine VS.z (h.size) [6] (.p 0 (.p 1 (.p 2 (.p 3 (.p 4 (.p 5 (.w 6 (.p 7 .nil)))))))) mixed (by kernel_rfl) ?_;simp -implicitDefEqProofs only[go_sem,↓reduceIte,e1,e2,e3,e4,e5,e6,e7,e8,c0];have qg:i*5≤m*5:=Nat.mul_le_mul_right _ (by omega);have ZpK:(i+1)*5≤m*5:=Nat.mul_le_mul_right _ (by omega);have kR:m*5≤cap*5:=Nat.mul_le_mul_right _ h7;have ZG:h[b]? = some (.cells (pre++(cs.take (i*5)++(cs.drop (i*5)++spare))).toArray 47 (0,0)):=by
  rw[←List.append_assoc (List.take _ _),List.take_append_drop];exact h3
 have src:Sl 5 h (.slice (if cap=i+1 then some ⟨b,off,none⟩ else some ⟨b,off+(i+1)*5,none⟩) (m-(i+1)) (cap-(i+1))) (m-(i+1)) (cs.drop ((i+1)*5)):=by
  have:=(YG.tail (k:=i+1) (.inr ⟨b,off,cap,pre,spare,h1,rfl,h3,h4,h5,h6,h7⟩:YG o t 47 5 h (.slice (some ⟨b,off,none⟩) m cap) m cs) (by omega)).sl;rw[Option.map_some,Y4]at this;exact this
 have nl:(cs.drop ((i+1)*5)).length=(m-(i+1))*5:=by rw[List.length_drop,h5,Nat.sub_mul]
 refine Kt (E:=47) (n:=5) (m:=i) (k:=m-(i+1)) (cs:=cs.take (i*5)) Dp Tryz.underlying34 Zbd nN ZG h4.symm (by rw[List.length_take];omega) src (List.all_eq_true.2 fun x hx=>List.all_eq_true.1 Xc x (List.mem_of_mem_drop hx)) (by omega) (by rw[List.length_append,List.length_drop,h5,←Nat.sub_mul];have:(m-(i+1))*5≤(m-i)*5:=Nat.mul_le_mul_right _ (by omega);omega) ?_;obtain⟨g,hg⟩:=Zx (h.setIfInBounds b (.cells (pre++((cs.take (i*5)++cs.drop ((i+1)*5))++(cs.drop (i*5)++spare).drop ((m-(i+1))*5))).toArray 47 (0,0)):Hp);rw[←hg];have kg:Kp (fun u=>u=t) o h o g:=by rw[hg];exact (Kp.refl d (fun u=>u=t)).set h1 rfl _
 have gb:=Zy (o:=.cells (pre++((cs.take (i*5)++cs.drop ((i+1)*5))++(cs.drop (i*5)++spare).drop ((m-(i+1))*5))).toArray 47 (0,0)) h3;rw[←hg]at gb;have e9:i+(m-(i+1))=m-1:=by omega
 have f1:((m-1:Nat):Int)≤m:=by omega
 have f2:(0:Int)≤((m-1:Nat):Int):=by omega
 have f3:cap≠m-1:=by omega
 have f4:(((m-1:Nat):Int)).toNat=m-1:=by omega
 have f5:(0:Int)≤m:=by omega
 have f6:((m-1:Nat):Int)≤cap:=by omega
 rw[e9];simp -implicitDefEqProofs only[go_sem,↓reduceIte,e3,f1,f2,f3,f4,f5,f6];have tl:((cs.drop (i*5)++spare).drop ((m-(i+1))*5)).length=5+spare.length:=by
  rw[List.length_drop,List.length_append,List.length_drop,h5];have:(m-(i+1))*5+5=m*5-i*5:=by rw[←Nat.sub_mul,←Nat.succ_mul];congr 1;omega
  omega
 obtain⟨tail,ht⟩:=Zx ((cs.drop (i*5)++spare).drop ((m-(i+1))*5));rw[←ht]at gb tl;obtain⟨body,ai⟩:=Zx (cs.take (i*5)++cs.drop ((i+1)*5));have bl:body.length=(m-1)*5:=by
  rw[ai,List.length_append,List.length_take,nl,h5,Nat.min_eq_left qg,←Nat.add_mul];congr 1
 rw[←ai]at gb ⊢;have gb2:g[b]? = some (.cells ((pre++body)++(tail.take 5++tail.drop 5)).toArray 47 (0,0)):=by
  rw[List.take_append_drop,List.append_assoc];exact gb
 have e10:m-(m-1)=1:=by omega
 rw[e10];refine Nt (E:=47) (n:=5) (k:=1) Dp nN rfl rfl gb2 (by rw[List.length_append,h4,bl]) (by rw[List.length_take];omega) ?_;intro new F6;simp -implicitDefEqProofs only[go_sem,↓reduceIte];have kk:=kg.set h1 rfl (.cells ((pre++body)++(new++tail.drop 5)).toArray 47 (0,0));refine⟨.inr ⟨b,off,cap,pre,new++tail.drop 5,h1,rfl,?_,h4,bl,?_,by omega⟩,kk⟩
 ·rw[Zy gb2,List.append_assoc]
 ·rw[List.length_append,F6,List.length_take,List.length_drop,tl,h6];have:(cap-(m-1))*5=(cap-m)*5+5:=by rw[←Nat.succ_mul];congr 1;omega
  omega
theorem Cv (T:World) (h:Hp) (o:Ow) (t:Tg) (v:Value) (m i:Nat) (cs:List Value) (s:YG o t 111 14 h v m cs) (d:UE o h) (Xc:cs.all Z7=true) (hi:i<m) (hm:m≤4611686018427387904) :
  Zc Tryz.prog T 51 #[v,.int .i64 i,.int .i64 ((i:Int)+1)] h fun v' h'=>YG o t 111 14 h' v' (m-1) (cs.take (i*14)++cs.drop ((i+1)*14))∧Kp (fun u=>u=t) o h o h':=by
 rcases s with⟨⟨p,rfl⟩,rfl,rfl⟩|⟨b,off,cap,pre,spare,h1,rfl,h3,h4,h5,h6,h7⟩
 ·omega
 refine Zc.Zk (args:=[_,_,_]) Tryz.func51 rfl rfl rfl rfl ?_;have e1:(i:Int)≤m:=by omega
 have e2:(i:Int)+1≤m:=by omega
 have e3:(m:Int)≤cap:=by omega
 have e4:(i:Int)≠i+1:=by omega
 have e5:((i:Int)+1).toNat=i+1:=by omega
 have e6:(0:Int)≤i+1:=by omega
 have e7:(i:Int)≤i+1:=by omega
 have e8:(i:Int)≤cap:=by omega
 have c0:cap≠0:=by omega
 simp -implicitDefEqProofs only[go_sem,↓reduceIte,e1,e2,e3,e4,e5,e6,e7,e8];refine VS.z (h.size) [6] (.p 0 (.p 1 (.p 2 (.p 3 (.p 4 (.p 5 (.w 6 (.p 7 .nil)))))))) mixed (by kernel_rfl) ?_;simp -implicitDefEqProofs only[go_sem,↓reduceIte,e1,e2,e3,e4,e5,e6,e7,e8,c0];have qg:i*14≤m*14:=Nat.mul_le_mul_right _ (by omega);have ZpK:(i+1)*14≤m*14:=Nat.mul_le_mul_right _ (by omega);have kR:m*14≤cap*14:=Nat.mul_le_mul_right _ h7;have ZG:h[b]? = some (.cells (pre++(cs.take (i*14)++(cs.drop (i*14)++spare))).toArray 111 (0,0)):=by
  rw[←List.append_assoc (List.take _ _),List.take_append_drop];exact h3
 have src:Sl 14 h (.slice (if cap=i+1 then some ⟨b,off,none⟩ else some ⟨b,off+(i+1)*14,none⟩) (m-(i+1)) (cap-(i+1))) (m-(i+1)) (cs.drop ((i+1)*14)):=by
  have:=(YG.tail (k:=i+1) (.inr ⟨b,off,cap,pre,spare,h1,rfl,h3,h4,h5,h6,h7⟩:YG o t 111 14 h (.slice (some ⟨b,off,none⟩) m cap) m cs) (by omega)).sl;rw[Option.map_some,Y4]at this;exact this
 have nl:(cs.drop ((i+1)*14)).length=(m-(i+1))*14:=by rw[List.length_drop,h5,Nat.sub_mul]
 refine Kt (E:=111) (n:=14) (m:=i) (k:=m-(i+1)) (cs:=cs.take (i*14)) dB Tryz.underlying71 nO dE ZG h4.symm (by rw[List.length_take];omega) src (List.all_eq_true.2 fun x hx=>List.all_eq_true.1 Xc x (List.mem_of_mem_drop hx)) (by omega) (by rw[List.length_append,List.length_drop,h5,←Nat.sub_mul];have:(m-(i+1))*14≤(m-i)*14:=Nat.mul_le_mul_right _ (by omega);omega) ?_;obtain⟨g,hg⟩:=Zx (h.setIfInBounds b (.cells (pre++((cs.take (i*14)++cs.drop ((i+1)*14))++(cs.drop (i*14)++spare).drop ((m-(i+1))*14))).toArray 111 (0,0)):Hp);rw[←hg];have kg:Kp (fun u=>u=t) o h o g:=by rw[hg];exact (Kp.refl d (fun u=>u=t)).set h1 rfl _
 have gb:=Zy (o:=.cells (pre++((cs.take (i*14)++cs.drop ((i+1)*14))++(cs.drop (i*14)++spare).drop ((m-(i+1))*14))).toArray 111 (0,0)) h3;rw[←hg]at gb;have e9:i+(m-(i+1))=m-1:=by omega
 have f1:((m-1:Nat):Int)≤m:=by omega
 have f2:(0:Int)≤((m-1:Nat):Int):=by omega
 have f3:cap≠m-1:=by omega
 have f4:(((m-1:Nat):Int)).toNat=m-1:=by omega
 have f5:(0:Int)≤m:=by omega
 have f6:((m-1:Nat):Int)≤cap:=by omega
 rw[e9];simp -implicitDefEqProofs only[go_sem,↓reduceIte,e3,f1,f2,f3,f4,f5,f6];have tl:((cs.drop (i*14)++spare).drop ((m-(i+1))*14)).length=14+spare.length:=by
  rw[List.length_drop,List.length_append,List.length_drop,h5];have:(m-(i+1))*14+14=m*14-i*14:=by rw[←Nat.sub_mul,←Nat.succ_mul];congr 1;omega
  omega
 obtain⟨tail,ht⟩:=Zx ((cs.drop (i*14)++spare).drop ((m-(i+1))*14));rw[←ht]at gb tl;obtain⟨body,ai⟩:=Zx (cs.take (i*14)++cs.drop ((i+1)*14));have bl:body.length=(m-1)*14:=by
  rw[ai,List.length_append,List.length_take,nl,h5,Nat.min_eq_left qg,←Nat.add_mul];congr 1
 rw[←ai]at gb ⊢;have gb2:g[b]? = some (.cells ((pre++body)++(tail.take 14++tail.drop 14)).toArray 111 (0,0)):=by
  rw[List.take_append_drop,List.append_assoc];exact gb
 have e10:m-(m-1)=1:=by omega
 rw[e10];refine Nt (E:=111) (n:=14) (k:=1) dB dE rfl rfl gb2 (by rw[List.length_append,h4,bl]) (by rw[List.length_take];omega) ?_;intro new F6;simp -implicitDefEqProofs only[go_sem,↓reduceIte];have kk:=kg.set h1 rfl (.cells ((pre++body)++(new++tail.drop 14)).toArray 111 (0,0));refine⟨.inr ⟨b,off,cap,pre,new++tail.drop 14,h1,rfl,?_,h4,bl,?_,by omega⟩,kk⟩
 ·rw[Zy gb2,List.append_assoc]
 ·rw[List.length_append,F6,List.length_take,List.length_drop,tl,h6];have:(cap-(m-1))*14=(cap-m)*14+14:=by rw[←Nat.succ_mul];congr 1;omega
  omega
section
variable {α:Type} {enc:α→List Value} {n:Nat}
theorem Rc (Qw:∀x,(enc x).length=n) (l:List α) (i:Nat) (hi:i≤l.length):(Zz enc l).take (i*n)=Zz enc (l.take i):=by
 have h1:(Zz enc (l.take i)).length=i*n:=by rw[X6 Qw,List.length_take,Nat.min_eq_left hi]
 have h2:Zz enc l=Zz enc (l.take i)++Zz enc (l.drop i):=by rw[←Yj,List.take_append_drop]
 rw[h2,←h1,List.take_left]
theorem Tm (Qw:∀x,(enc x).length=n) (l:List α) (i:Nat) (hi:i≤l.length):(Zz enc l).drop (i*n)=Zz enc (l.drop i):=by
 have h1:(Zz enc (l.take i)).length=i*n:=by rw[X6 Qw,List.length_take,Nat.min_eq_left hi]
 have h2:Zz enc l=Zz enc (l.take i)++Zz enc (l.drop i):=by rw[←Yj,List.take_append_drop]
 rw[h2,←h1,List.drop_left]
theorem qH (Qw:∀x,(enc x).length=n) (l:List α) (i:Nat) (hi:i<l.length) (y:α):Zz enc (l.set i y)=(Zz enc l).take (i*n)++(enc y++(Zz enc l).drop ((i+1)*n)):=by
 rw[List.set_eq_take_append_cons_drop,if_pos hi,Yj,Rc Qw _ _ (by omega),Tm Qw _ _ (by omega)];rfl
end
theorem xf (l:List Cm):(Zz Js.C l).all Z7=true:=by
 induction l with
 | nil=>rfl
 | cons x l ih=>rw[Zz,List.all_append,ih];rfl
theorem VE {l:List Cm} {j:Nat} (hj:j<l.length) (q:Cm→Bool):(l.take (j+1)).filter q=(l.take j).filter q++if q l[j]=true then [l[j]] else []:=by
 rw[Yl l j hj,List.filter_append]
 congr 1
 cases h:q l[j]<;>simp[h]
theorem Cw {l:List Cm} {x:Cm} {i:Nat} (h:Tj l x=i):i<l.length∧(l.take i).filter (fun y=>decide (y≠x))=l.take i∧l[i]? = some x:=by
 unfold Tj at h;split at h
 ·rename_i hm;have hi:l.idxOf x=i:=by omega
  have h1:l.idxOf x<l.length:=List.idxOf_lt_length_of_mem hm;refine⟨by omega,?_,?_⟩
  ·rw[List.filter_eq_self];intro y hy;obtain⟨k,hk,rfl⟩:=List.getElem_of_mem hy;rw[List.length_take]at hk;rw[List.getElem_take];have:=List.not_of_lt_findIdx (p:=(· == x)) (xs:=l) (i:=k) (show k<List.findIdx (· == x) l by rw[show List.findIdx (· == x) l=l.idxOf x from rfl];omega)
   simpa using this
  ·rw[←hi,List.getElem?_eq_getElem h1,List.getElem_idxOf h1]
 ·omega
theorem Cx (T:World) (h:Hp) (o:Ow) (t:Tg) (v:Value) (l:List Cm) (bx:Nat) (x:Cm) (s:QT o t h v l) (d:UE o h) (hb:ZR o h bx (.cells x.C.toArray 47)) (hl:l.length≤4611686018427387904) :
  Zc Tryz.prog T 118 #[v,MS bx] h fun v' h'=>QT o t h' v' (l.filter fun y=>decide (y≠x))∧Kp (fun u=>u=t) o h o h':=by
 have ts:Ts Js.C 5 h v l:=⟨s.sl⟩
 obtain⟨p,c,rfl,YS⟩:=JY ts;refine Zc.Zk (args:=[_,_]) Tryz.func118 rfl rfl rfl rfl ?_;unfold MS WM;simp -implicitDefEqProofs only[go_sem,↓reduceIte];refine (Iq T h _ l bx x ts hb.2 hl).use ?_;rintro _ h1 ⟨rfl,b1⟩;have k1:Kp (fun u=>u=t) o h o h1:=Kp.Ks d b1 _;by_cases hm:x∈l
 case neg=>
  have e:Tj l x = -1:=by unfold Tj;rw[if_neg hm]
  have e2:(l.filter fun y=>decide (y≠x))=l:=by
   rw[List.filter_eq_self];intro y hy;simpa using fun q=>hm (by rw[←q];exact hy)
  simp -implicitDefEqProofs only[go_sem,↓reduceIte,e,e2];exact⟨QT.Zd (S:=fun _=>False) s (Kp.Ks d b1 _) id,k1⟩
 obtain⟨i0,T6⟩:∃i:Nat,Tj l x=i:=⟨l.idxOf x,by unfold Tj;rw[if_pos hm]⟩
 obtain⟨hi,hf,hx⟩:=Cw T6;rcases s with⟨⟨q,h1'⟩,h2',h3'⟩|⟨b,off,cap,pre,spare,o1,hv,o3,o4,o5,o6,o7⟩
 ·omega
 simp only[Value.slice.injEq]at hv;obtain⟨rfl,_,rfl⟩:=hv;have i1:¬((i0:Nat):Int) = -1:=by omega
 simp -implicitDefEqProofs only[go_sem,↓reduceIte,T6,i1];obtain⟨q,hq⟩:∃q:Cm→Bool,q=fun y=>decide ¬y=x:=⟨_,rfl⟩
 have hq':(fun y=>decide (y≠x))=q:=by rw[hq]
 have hqx:∀y,q y=decide ¬y=x:=fun y=>by rw[hq]
 rw[hq']at hf;rw[←hq];have Bx:l[i0]=x:=by rw[List.getElem?_eq_getElem hi]at hx;exact Option.some.inj hx
 have sl:l.length≤c:=o7;have el:∀L:List Cm,(Zz Js.C L).length=L.length*5:=fun L=>X6 (n:=5) OW L;refine VS.ZW (fun F g=>F 0=.slice (some ⟨b,off,none⟩) l.length c∧F 1=MS bx∧Kp (fun u=>u=t) o h o g∧∃(i j:Nat) (L:List Cm),F 5=.int .i64 i∧F 6=.int .i64 j∧j≤l.length∧i<j∧L.length=l.length∧L.take i=(l.take j).filter q∧L.drop j=l.drop j∧i=((l.take j).filter q).length ∧
   g[b]? = some (.cells (pre++(Zz Js.C L++spare)).toArray 47 (0,0)))
  (fun F _=>l.length-(vi (F 6)).toNat) rfl ⟨rfl,rfl,k1,i0,i0+1,l,rfl,?_,by omega,by omega,rfl,?_,rfl,?_,b1.get (Za o3) o3⟩ ?_
 ·show Value.int .i64 _=_
  congr 1
 ·rw[VE hi,hf,Bx,hqx,if_neg (by simp),List.append_nil]
 ·rw[VE hi,hf,Bx,hqx,if_neg (by simp),List.append_nil,List.length_take];omega
 rintro F g ⟨f0,f1,kg,i,j,L,f5,f6,hj,kO,hL,zH,hLj,EE,gb⟩;unfold MS WM at f1;simp only[List.map]at f1;have gl:=Za gb;by_cases ZD:j<l.length
 ·have ZL:(j:Int)<l.length:=by omega
  have hjL:L[j]? = l[j]?:=by
   have:=congrArg (fun z=>z[0]?) hLj
   simpa using this
  have BL:j<L.length:=by omega
  have hjE:L[j]=l[j]:=by
   rw[List.getElem?_eq_getElem BL,List.getElem?_eq_getElem ZD]at hjL;exact Option.some.inj hjL
  have ow:YG o t 47 5 g (.slice (some ⟨b,off,none⟩) L.length c) L.length (Zz Js.C L):=.inr ⟨b,off,c,pre,spare,o1,rfl,gb,o4,el L,by rw[hL];exact o6,by omega⟩;obtain⟨p2,c2,pL,HU⟩:=JY (⟨ow.sl⟩:Ts Js.C 5 g _ L);obtain⟨bb,oo,nE,_,hr⟩:=HU (by intro e;rw[e]at BL;simp at BL);subst nE;simp only[Value.slice.injEq,Option.some.injEq,Addr.mk.injEq]at pL;obtain⟨⟨rfl,rfl,_⟩,_,rfl⟩:=pL;have r1:rd g ⟨b,off+j*5,none⟩ 5=some (l[j]).C:=by rw[hr j BL,hjE]
  simp -implicitDefEqProofs only[go_sem,↓reduceIte,f0,f1,f5,f6,ZL,r1];have bxg:=hb.Zd kg;have bxl:bx≠g.size:=by have:=Za bxg.2;omega
  refine (GB T _ bx x l[j] (by rw[Zt (Za bxg.2)];exact bxg.2)).use ?_;rintro _ g1 ⟨rfl,vo⟩;have bp:Zf g.size g g1:=(Zf.push (Nat.le_refl _) _).trans (vo.mono (by simp));have kg1:Kp (fun u=>u=t) o h o g1:=kg.Z2 bp;have gb1:=bp.get gl gb;have ZpO:g1[g.size]? = some (.cells (l[j]).C.toArray 47):=vo.get (by simp) Zb;have yr:rd g1 ⟨g.size,0,none⟩ 5=some (l[j]).C:=Zq ZpO rfl;have fs:=VE ZD q;have hd1:∀L':List Cm,L'.drop j=l.drop j→L'.drop (j+1)=l.drop (j+1):=fun L' h=>by
   rw[←List.drop_drop,←List.drop_drop,h]
  by_cases hxj:l[j]=x
  ·have fs':(l.take (j+1)).filter q=(l.take j).filter q:=by rw[fs,hqx,if_neg (by simp[hxj]),List.append_nil]
   simp -implicitDefEqProofs only[go_sem,↓reduceIte,hxj,f0,f1,f5,f6];refine⟨⟨f0,f1,kg1,i,j+1,L,f5,rfl,ZD,by omega,hL,by rw[fs'];exact zH,hd1 L hLj,by rw[fs'];exact EE,gb1⟩,?_⟩;simp only[vi,Zi,↓reduceIte,f6];omega
  ·have fs':(l.take (j+1)).filter q=(l.take j).filter q++[l[j]]:=by rw[fs,hqx,if_pos (by simp[hxj])]
   have i0':(0:Int)≤i:=by omega
   have i1':(i:Int)<l.length:=by omega
   have hiL:i<L.length:=by omega
   have w1:=ZU gb1 (off+i*5) (l[j]).C;have eL:Yw (pre++(Zz Js.C L++spare)) (off+i*5) (l[j]).C=pre++(Zz Js.C (L.set i l[j])++spare):=by
    have e1:Zz Js.C L=(Zz Js.C L).take (i*5)++(((Zz Js.C L).drop (i*5)).take 5++(Zz Js.C L).drop ((i+1)*5)):=by
     have:(Zz Js.C L).drop ((i+1)*5)=((Zz Js.C L).drop (i*5)).drop 5:=by rw[List.drop_drop];congr 1;omega
     rw[this,List.take_append_drop,List.take_append_drop]
    have hle:(i+1)*5≤(Zz Js.C L).length:=by rw[el];omega
    rw[qH OW L i hiL]
    conv=>lhs;rw[e1]
    have e2:pre++(((Zz Js.C L).take (i*5)++(((Zz Js.C L).drop (i*5)).take 5++(Zz Js.C L).drop ((i+1)*5)))++spare)=(pre++(Zz Js.C L).take (i*5))++(((Zz Js.C L).drop (i*5)).take 5++((Zz Js.C L).drop ((i+1)*5)++spare)):=by simp only[List.append_assoc]
    rw[e2,WV (by rw[List.length_append,o4,List.length_take];omega) (by rw[List.length_take,List.length_drop,OW];omega)];simp only[List.append_assoc]
   rw[eL,if_pos ⟨by rw[List.length_append,List.length_append,o4,el,OW];omega,qF _⟩]at w1;simp -implicitDefEqProofs only[go_sem,↓reduceIte,hxj,f0,f1,f5,f6,yr,i0',i1',w1];refine⟨⟨f0,f1,kg1.set o1 rfl _,i+1,j+1,L.set i l[j],rfl,rfl,ZD,by omega,by rw[List.length_set,hL],?_,?_,?_,Zy gb1⟩,?_⟩
   ·rw[Yl _ i (by rw[List.length_set];exact hiL),List.take_set_of_le (Nat.le_refl _),List.getElem_set_self,fs',←zH]
   ·refine hd1 _ ?_;rw[←hLj,List.drop_set_of_lt (by omega)]
   ·rw[fs',List.length_append,←EE];rfl
   ·simp only[vi,Zi,↓reduceIte,f6];omega
 ·have YJ:¬(j:Int)<l.length:=by omega
  obtain rfl:j=l.length:=by omega
  rw[List.take_length]at zH EE;have hiL:i≤L.length:=by omega
  have gb2:g[b]? = some (.cells ((pre++Zz Js.C (L.take i))++(Zz Js.C (L.drop i)++spare)).toArray 47 (0,0)):=by
   rw[←Rc OW L i hiL,←Tm OW L i hiL];have:(pre++(Zz Js.C L).take (i*5))++((Zz Js.C L).drop (i*5)++spare)=pre++(Zz Js.C L++spare):=by
    rw[List.append_assoc,←List.append_assoc (List.take _ _),List.take_append_drop]
   rw[this];exact gb
  have tl:(Zz Js.C (L.take i)).length=i*5:=by rw[el,List.length_take,Nat.min_eq_left hiL]
  simp -implicitDefEqProofs only[go_sem,↓reduceIte,f0,f5,f6,YJ];refine Nt (E:=47) (n:=5) (k:=l.length-i) Dp nN rfl rfl gb2 (by rw[List.length_append,o4,tl]) (by rw[el,List.length_drop,hL]) ?_;intro new F6;have i2:(i:Int)≤c:=by omega
  simp -implicitDefEqProofs only[go_sem,↓reduceIte,i2,f0,f5];have e:(Zz Js.C (L.take i))=Zz Js.C (l.filter q):=by rw[zH]
  refine⟨.inr ⟨b,off,c,pre,new++spare,o1,by rw[←EE],?_,o4,el _,?_,by omega⟩,kg.set o1 rfl _⟩
  ·rw[Zy gb2,←e,List.append_assoc]
  ·rw[List.length_append,F6,el,List.length_drop,o6,hL,←EE,←Nat.add_mul];congr 1;omega
@[go_sem] theorem ZpP (x:Vt):YB [some .i64,some .i64,some .i64,some .i64,some .i64,some .i64,some .i64,some .i64] (Zo x)=true:=rfl
@[go_sem] theorem ZpQ (x y:Vt):leq (Zo x) (Zo y)=decide (x=y):=by
 obtain⟨a,⟨b,c⟩,d,e,f,g,k⟩:=x;obtain⟨a',⟨b',c'⟩,d',e',f',g',k'⟩:=y;unfold Zo;rw[Bool.eq_iff_iff];simp[leq,ceq,Vt.mk.injEq,and_assoc]
@[go_sem] theorem Zky (x:YN):YB [some .i64,some .i64] (Jr x)=true:=rfl
@[go_sem] theorem Zkz (x y:YN):leq (Jr x) (Jr y)=decide (x=y):=by
 obtain⟨a,b⟩:=x;obtain⟨a',b'⟩:=y;unfold Jr;rw[Bool.eq_iff_iff];simp[leq,ceq,YN.mk.injEq]
@[go_sem] theorem ZgX (x:Vt):(Zo x).length=8:=rfl
theorem Ir {h:Hp} {v:Value} {l:List Vt} (s:Ts Zo 8 h v l):∃p c,v=.slice p l.length c∧(l≠[]→∃b o,p=some ⟨b,o,none⟩∧b<h.size∧∀i (hi:i<l.length),rd h ⟨b,o+i*8,none⟩ 8=some (Zo l[i])):=by
 obtain⟨p,c,hv,hh⟩:=s.open ZgX (by decide);refine⟨p,c,hv,fun YA=>?_⟩;obtain⟨b,o,h1,h2,h3⟩:=hh YA;exact⟨b,o,h1,h2,fun i hi=>(h3 i hi).rd (by simp[Zo]) rfl⟩
theorem bz (T:World) (h:Hp) (v:Value) (l:List Vt) (x:Vt) (s:Ts Zo 8 h v l) (hl:l.length≤4611686018427387904) :
  Zc Tryz.prog T 121 #[v,.agg (Zo x).toArray] h fun v' h'=>(∃i:Int,v'=.int .i64 i∧(0≤i↔x∈l))∧Zf h.size h h':=by
 obtain⟨p,c,rfl,YS⟩:=Ir s;refine Zc.Zk (args:=[_,_]) Tryz.func121 rfl rfl rfl rfl ?_;simp -implicitDefEqProofs only[go_sem,↓reduceIte];obtain⟨h1,YK⟩:=Zx (h.push (.cells (Zo x).toArray 109):Hp);have b1:Zf h.size h h1:=by rw[YK];exact Zf.push (Nat.le_refl _) _
 have x1:h1[h.size]? = some (.cells (Zo x).toArray 109):=by rw[YK];exact Zb
 rw[←YK];clear YK;refine VS.ZW (fun F g=>g=h1∧F 0=.slice p l.length c∧F 3=.pointer (some ⟨h.size,0,none⟩)∧F 7=.int .i64 l.length∧∃i:Nat,i≤l.length∧F 8=.int .i64 i∧∀j (hj:j<l.length),j<i→l[j]≠x)
  (fun F _=>l.length-(vi (F 8)).toNat) rfl ⟨rfl,rfl,rfl,rfl,0,by omega,rfl,fun j hj q=>by omega⟩ ?_
 rintro F g ⟨rfl,f0,f3,f7,i,hi,f8,Xk⟩;by_cases ZD:i<l.length
 ·have ZL:(i:Int)<l.length:=by omega
  obtain⟨bb,oo,rfl,Wi,FD⟩:=YS (by intro e;rw[e]at ZD;simp at ZD);have r1:rd g ⟨bb,oo+i*8,none⟩ 8=some (Zo l[i]):=by rw[JQ b1 (by exact Wi)];exact FD i ZD
  have r0:rd g ⟨h.size,0,none⟩ 8=some (Zo x):=Zq x1 rfl;simp -implicitDefEqProofs only[go_sem,↓reduceIte,f0,f3,f7,f8,ZL];refine VS.q mixed (by kernel_rfl) ?_;simp -implicitDefEqProofs only[go_sem,↓reduceIte,f0,f3,f7,f8,ZL,r1,r0];by_cases q:l[i]=x
  ·rw[q];simp -implicitDefEqProofs only[go_sem,↓reduceIte,b1];exact⟨_,rfl,fun _=>q▸List.getElem_mem ZD,fun _=>by omega⟩
  ·have q':¬x=l[i]:=fun e=>q e.symm;simp -implicitDefEqProofs only[go_sem,↓reduceIte,q',f0,f3,f7,f8];refine⟨⟨rfl,f0,f3,f7,i+1,ZD,rfl,fun j hj WO=>?_⟩,?_⟩
   ·by_cases e:j=i
    ·subst e;exact q
    ·exact Xk j hj (by omega)
   ·simp only[vi,Zi,↓reduceIte,f8];omega
 ·have YJ:¬(i:Int)<l.length:=by omega
  have hx:x ∉ l:=fun hm=>by obtain⟨j,hj,he⟩:=List.getElem_of_mem hm;exact Xk j hj (by omega) he
  simp -implicitDefEqProofs only[go_sem,↓reduceIte,f7,f8,YJ,b1,hx];exact⟨-1,rfl,fun q=>by omega,fun q=>q.elim⟩
theorem HC (T:World) (h:Hp) (v:Value) (l:List Vt) (x:Vt) (s:Ts Zo 8 h v l) (hl:l.length≤4611686018427387904) :
  Zc Tryz.prog T 95 #[v,.agg (Zo x).toArray] h fun v' h'=>v'=.bool (decide (x∈l))∧Zf h.size h h':=by
 obtain⟨p,c,rfl,YS⟩:=Ir s;refine Zc.Zk (args:=[_,_]) Tryz.func95 rfl rfl rfl rfl ?_;simp -implicitDefEqProofs only[go_sem,↓reduceIte];refine (bz T _ _ l x (s.Z2 ((Zf.refl _ _).add _)) hl).use ?_;rintro _ h2 ⟨⟨i,rfl,hi⟩,b2⟩;have b:Zf h.size h h2:=((Zf.refl _ _).add _).trans (b2.mono (by simp));simp -implicitDefEqProofs only[go_sem,↓reduceIte,hi,b]
theorem OY (T:World) (h:Hp) (a b:YN):Zc Tryz.prog T 71 #[.agg (Jr a).toArray,.agg (Jr b).toArray] h fun v' h'=>v'=.bool (decide (below b a))∧Zf h.size h h':=by
 refine Zc.Zk (args:=[_,_]) Tryz.func71 rfl rfl rfl rfl ?_;unfold Jr;by_cases q1:b.r<a.r
 ·have e:below b a:=.inl q1;simp -implicitDefEqProofs only[go_sem,↓reduceIte,q1,e]
  (repeat' (first|exact Zf.refl _ _|assumption|refine Zf.add ?_ _|refine Zf.Zm ?_ (by first|omega|(simp;omega)) _|refine Zf.trans (by assumption) ?_))
 ·by_cases q2:a.r=b.r
  ·by_cases q3:b.n<a.n
   ·have e:below b a:=.inr ⟨q2.symm,q3⟩;simp -implicitDefEqProofs only[go_sem,↓reduceIte,q1,q2,q3,e]
    (repeat' (first|exact Zf.refl _ _|assumption|refine Zf.add ?_ _|refine Zf.Zm ?_ (by first|omega|(simp;omega)) _|refine Zf.trans (by assumption) ?_))
   ·have e:¬below b a:=fun h=>by rcases h with h|⟨_,h⟩<;>omega
    simp -implicitDefEqProofs only[go_sem,↓reduceIte,q1,q2,q3,e]
    (repeat' (first|exact Zf.refl _ _|assumption|refine Zf.add ?_ _|refine Zf.Zm ?_ (by first|omega|(simp;omega)) _|refine Zf.trans (by assumption) ?_))
  ·have e:¬below b a:=fun h=>by rcases h with h|⟨h,_⟩<;>omega
   simp -implicitDefEqProofs only[go_sem,↓reduceIte,q1,q2,e]
   (repeat' (first|exact Zf.refl _ _|assumption|refine Zf.add ?_ _|refine Zf.Zm ?_ (by first|omega|(simp;omega)) _|refine Zf.trans (by assumption) ?_))
theorem LG (T:World) (h:Hp) (n:Nat) (hn:n≤1000000000000):Zc Tryz.prog T 92 #[.int .i64 n] h fun v' h'=>v'=.bool (decide (5<2*n))∧h'=h:=by
 refine Zc.Zk (args:=[_]) Tryz.func92 rfl rfl rfl rfl ?_;have e:((5:Int)<2*(n:Int))=(5<2*n):=by apply propext;omega
 simp -implicitDefEqProofs only[go_sem,↓reduceIte,e]
theorem QT.ts {o:Ow} {t:Tg} {h:Hp} {v:Value} {l:List Cm} (s:QT o t h v l):Ts Js.C 5 h v l:=⟨YG.sl s⟩
theorem NX {T:World} {K:Value→Hp→Prop} {ty:TypeId} {o:Ow} {t:Tg} {h:Hp} {v:Value} {l:List Cm} {x:Cm} {bx:Nat} {cb:Array Bool} (s:QT o t h v l) (d:UE o h) (hb:h[bx]? = some (.cells x.C.toArray 47)) (hr:l.length≤1000000000000)
  (H:∀p c o' h',QT o' t h' (.slice p (l.length+1) c) (l++[x])→Kp (fun u=>u=t) o h o' h'→K (.slice p (l.length+1) c) h') :
  T9 Tryz.prog T .append #[34,34] ty cb [v,.slice (some ⟨bx,0,none⟩) 1 1] K h:=by
 have src:Sl 5 h (.slice (some ⟨bx,0,none⟩) 1 1) 1 x.C:=⟨_,1,rfl,rfl,fun _=>⟨bx,0,rfl,fun i hi=>by
  rw[Zh hb,Yh,Nat.zero_add];exact List.getElem?_eq_getElem hi⟩⟩
 refine Jf (E:=47) (n:=5) (bytes:=40) (k:=1) Dp Tryz.underlying34 Zbd nN rfl Zfg s d src (qF x) (by omega) (by omega) ?_;intro v' o' h' w k _;obtain⟨p,c,rfl,_⟩:=w.isSlice;refine H p c o' h' ?_ k;unfold QT;rw[Yj,Ur,List.length_append];exact w
def Zcj (i:Nat) (t:Tg):Prop:=t=.node i∨t=.queue i
theorem qI (T:World) (h:Hp) (o:Ow) (wb i nb:Nat) (a:NA) (n:Nd) (x:Cm) (d:UE o h) (N:ZM o h wb i nb a n) (hq:n.queue.length≤1000000000000) (hl:n.log.length≤1000000000000) :
  Zc Tryz.prog T 46 #[Zp nb,Vi x] h fun v' h'=>∃o' a',Kp (Zcj i) o h o' h'∧ZM o' h' wb i nb a' (add n x):=by
 have WD:=Za N.ZG.2;have R:=ZA N.ZG.2 N.pt.store.len;refine Zc.Zk (args:=[_,_]) Tryz.func46 rfl rfl rfl rfl ?_;unfold Zp Vi;have e1:nb≠h.size:=by omega
 simp -implicitDefEqProofs only[go_sem,↓reduceIte];obtain⟨h1,YK⟩:=Zx (h.push (.cells x.C.toArray 47):Hp);have k1:Kp QM o h o h1:=by rw[YK];exact ZY d _
 have x1:ZR o h1 h.size (.cells x.C.toArray 47):=⟨d _ (Nat.le_refl _),by rw[YK];exact Zb⟩
 rw[←YK];have N1:=N.still k1;clear YK;have R1:=ZA N1.ZG.2 N1.pt.store.len;have JZ:=Za N1.ZG.2;have hs1:=Za x1.2;have r1:rd h1 ⟨h.size,0,none⟩ 5=some x.C:=Zq x1.2 rfl;refine VS.z (h1.size) [13] (.p 0 (.p 1 (.p 2 (.q 3 (.q 4 (.s 5 (.p 6 (.p 7 (.p 8 (.p 9 (.p 10 (.q 11 (.q 12 (.w 13 (.p 14 (.p 15 .nil)))))))))))))))) mixed (by kernel_rfl) ?_;simp -implicitDefEqProofs only[go_sem,↓reduceIte,R1.queue,JZ,r1,hs1];refine (VD T h1 _ n.queue x N1.pt.queue.ts (by omega)).use ?_;rintro _ h2 ⟨rfl,b2⟩;by_cases q1:x∈n.queue
 ·have e:add n x=n:=by unfold add;rw[if_pos (.inl q1)]
  simp -implicitDefEqProofs only[go_sem,↓reduceIte,q1,b2,e];exact⟨o,a,(ZF k1).Z2 b2,N1.still (ZE k1.ZX b2)⟩
 simp -implicitDefEqProofs only[go_sem,↓reduceIte,q1,b2,R1.log,JZ,r1,hs1];have k2:=ZE k1.ZX b2;refine (VD T h2 _ n.log x (N1.still k2).pt.log.ts (by omega)).use ?_;rintro _ h3 ⟨rfl,b3⟩;have b13:Zf h1.size h1 h3:=b2.trans (b3.mono b2.size);have k3:=ZE k1.ZX b13;by_cases q2:x∈n.log
 ·have e:add n x=n:=by unfold add;rw[if_pos (.inr q2)]
  simp -implicitDefEqProofs only[go_sem,↓reduceIte,q2,b13,e];exact⟨o,a,(ZF k1).Z2 b13,N1.still k3⟩
 have e:add n x = { n with queue:=n.queue++[x] }:=by unfold add;rw[if_neg (fun q=>q.elim q1 q2)]
 simp -implicitDefEqProofs only[go_sem,↓reduceIte,q2,b13,e];have N3:=N1.still k3;have x3:=x1.Zd k3;have R3:=ZA N3.ZG.2 N3.pt.store.len;have PA:=Za N3.ZG.2;have hs3:=Za x3.2;have r3:rd h3 ⟨h.size,0,none⟩ 5=some x.C:=Zq x3.2 rfl;refine VS.z (h3.size) [7,10] (.p 0 (.p 1 (.p 2 (.p 3 (.q 4 (.q 5 (.s 6 (.w 7 (.p 8 (.p 9 (.w 10 .nil))))))))))) mixed (by kernel_rfl) ?_;simp -implicitDefEqProofs only[go_sem,↓reduceIte,R3.queue,PA,r3,hs3];have k4:=ZY k3.ZX (.cells x.C.toArray 47);have N4:=N3.still k4;refine NX (l:=n.queue) N4.pt.queue k4.ZX Zb hq ?_;intro p c o5 h5 w5 k5;have b5:=N4.ZG.Zd k5 (by intro e;cases e);have W5:=Y0 b5.2 N4.pt.store.len;have w:=W5.queue (.slice p (n.queue.length+1) c) rfl;simp -implicitDefEqProofs only[go_sem,↓reduceIte,w];exact⟨o5,_,(((ZF k1).Z2 b13).push _).trans (k5.mono fun u q=>.inr q) |>.set b5.1 (.inl rfl) _,(N4.pt.Gy k5 w5).put k5.ZX b5⟩
def QU (i:Nat) (t:Tg):Prop:=t=.world∨t=.told∨t=.node i∨t=.known i∨t=.log i∨t=.queue i∨t=.waiting i
theorem qJ {β:Type}:∀(l:List (Int × β)) (ks:List Int),ks.Nodup→(∀k∈ks,(Yv l k).isSome=true)→ks.length≤l.length:=by
 intro l
 induction l with
 | nil=>
  intro ks _ h
  cases ks with
  | nil=>simp
  | cons k ks=>have:=h k (by simp);simp[Yv]at this
 | cons x l ih=>
  intro ks hn h;obtain⟨a,v⟩:=x;have h1:(ks.erase a).length≤l.length:=ih _ (hn.erase a) fun k hk=>by
   have Oh:=(List.Nodup.mem_erase_iff hn).1 hk;have:=h k Oh.2;unfold Yv at this;rw[if_neg (fun e=>Oh.1 e.symm)]at this;exact this
  have h2:ks.length≤(ks.erase a).length+1:=by
   rw[List.length_erase];split<;>omega
  simp only[List.length_cons];omega
theorem Cy {β:Type} (l:List (Int × β)) (a m:Nat) (h:∀j,j<m→(Yv l ((a+j:Nat):Int)).isSome=true):m≤l.length:=by
 have:=qJ l ((List.range m).map fun j=>((a+j:Nat):Int)) ?_ ?_
 ·simpa using this
 ·rw[List.nodup_iff_pairwise_ne,List.pairwise_map];exact (List.nodup_range (n:=m)).imp fun {x y} hxy he=>hxy (by omega)
 ·intro k hk;simp only[List.mem_map,List.mem_range]at hk;obtain⟨j,hj,rfl⟩:=hk;exact h j hj
theorem eY (T:World) (h:Hp) (cs:List Value) (s:OV cs) (x:Cm):Zc Tryz.prog T 14 #[.agg cs.toArray,Vi x] h fun v' h'=>v'=.tuple #[.agg (Ea cs x).toArray,.agg #[.int .i64 (Pv cs x),.int .i64 (Ih cs x)],.int .i64 (QI cs x)]∧Zf h.size h h':=by
 refine (KO T h cs x.k x.c x.s x.n x.v s.fit s.num s.yes).mono ?_;rintro v' h' ⟨H,b⟩;refine⟨?_,b⟩;rw[H];unfold doL Ea Pv Ih QI Y5;by_cases e:RN cs x.k x.c x.s x.n x.v=0
 ·rw[if_pos e,if_pos e,if_pos e,if_pos e,e]
 ·rw[if_neg e,if_neg e,if_neg e,if_neg e]
theorem OV.qL {cs:List Value} (h:YB XK cs=true):OV cs:=⟨h,Ia h,MK h⟩
theorem OV.do {cs:List Value} (s:OV cs) (x:Cm):OV (Ea cs x):=by
 obtain⟨D,a,b,h1,h2,_⟩:=eH s.fit x;refine OV.qL ?_;unfold doL at h1;unfold Ea QI Y5;by_cases e:RN cs x.k x.c x.s x.n x.v=0
 ·rw[if_pos e]at h1 ⊢;simp only[List.cons.injEq,Value.agg.injEq,Array.mk.injEq]at h1;rw[h1.1];exact h2
 ·rw[if_neg e]at h1 ⊢;simp only[List.cons.injEq,Value.agg.injEq,Array.mk.injEq]at h1;rw[h1.1];exact h2
theorem MT {T:World} {K:Value→Hp→Prop} {ty:TypeId} {o:Ow} {t:Tg} {h:Hp} {v:Value} {l:List Rr} {x:Rr} {bx:Nat} {cb:Array Bool} (s:YG o t 132 5 h v l.length (Zz Il l)) (d:UE o h) (hb:h[bx]? = some (.cells (Il x).toArray 132)) (hr:l.length≤1000000000000)
  (H:∀p c o' h',YG o' t 132 5 h' (.slice p (l.length+1) c) (l++[x]).length (Zz Il (l++[x]))→Kp (fun u=>u=t) o h o' h'→K (.slice p (l.length+1) c) h') :
  T9 Tryz.prog T .append #[26,26] ty cb [v,.slice (some ⟨bx,0,none⟩) 1 1] K h:=by
 have src:Sl 5 h (.slice (some ⟨bx,0,none⟩) 1 1) 1 (Il x):=⟨_,1,rfl,rfl,fun _=>⟨bx,0,rfl,fun i hi=>by
  rw[Zh hb,Yh,Nat.zero_add];exact List.getElem?_eq_getElem hi⟩⟩
 refine Jf (E:=132) (n:=5) (bytes:=40) (k:=1) Zfe Tryz.underlying26 Zfj Zfl rfl Zfk s d src rfl (by omega) (by omega) ?_;intro v' o' h' w k _;obtain⟨p,c,rfl,_⟩:=w.isSlice;refine H p c o' h' ?_ k;rw[Yj,Ur,List.length_append];exact w
theorem ZH.fa {o o1:Ow} {h h1:Hp} {wb:Nat} {nb:Nat→Nat} {a:WA} {fl:List Xj} {bad:Nat→Int} {told qM:List Rr} {v:Value} (W:ZH o h wb nb a fl bad told) (k:Kp (fun t=>t=.told) o h o1 h1)
  (hv:YG o1 .told 132 5 h1 v qM.length (Zz Il qM)) {e:Option Hp} (w:e=some (h1.setIfInBounds wb (.cells (Xm bad { a with told:=v }).toArray 73))) :
  ∃g,e=some g∧ZH o1 g wb nb { a with told:=v } fl bad qM∧Kp (fun t=>t=.world) o1 h1 o1 g:=by
 have b:=W.ZG.Zd k (by intro e;cases e);have kk:Kp (fun t=>t=.world) o1 h1 o1 (h1.setIfInBounds wb (.cells (Xm bad { a with told:=v }).toArray 73)):=(Kp.refl k.ZX (fun t=>t=.world)).set b.1 rfl _;exact⟨_,w,⟨⟨b.1,Zy b.2⟩,(W.nodes.Zd k (by intro e;cases e)).Zd kk (by intro e;cases e),(W.Zn.Zd k (by intro e;cases e)).Zd kk (by intro e;cases e),hv.Zd kk (by intro e;cases e)⟩,kk⟩
def fb:Option Value→Nat
 | some (.slice _ l _)=>l
 | _=>0
set_option maxHeartbeats 1000000 in
theorem Is (T:World) (h:Hp) (o:Ow) (wb i nb:Nat) (Yb:Nat→Nat) (a:NA) (n:Nd) (YO:WA) (fl:List Xj) (bad:Nat→Int) (told:List Rr) (s:Int) (x:Cm) (d:UE o h)
  (N:ZM o h wb i nb a n) (W:ZH o h wb Yb YO fl bad told) (hk:n.known.length≤100000000000) (hl:n.log.length≤100000000000) (ht:told.length≤100000000000) (hq:n.queue.length≤1000000000000) (hw:n.waiting.length≤1000000000000) :
  Zc Tryz.prog T 93 #[Zp wb,Zp nb,.int .i64 s,Vi x] h fun v' h'=>∃o' a' XA,Kp (QU i) o h o' h'∧ZM o' h' wb i nb a' (Wq n s x).n∧ZH o' h' wb Yb XA fl bad (told++(Wq n s x).ts):=by
 have WD:=Za N.ZG.2;have Ed:=Za W.ZG.2;refine Zc.Zk (args:=[_,_,_,_]) Tryz.func93 rfl rfl rfl rfl ?_;unfold Zp Vi;simp -implicitDefEqProofs only[go_sem,↓reduceIte];obtain⟨h1,YK⟩:=Zx (h.push (.cells x.C.toArray 47):Hp);have k1:Kp QM o h o h1:=by rw[YK];exact ZY d _
 have x1:ZR o h1 h.size (.cells x.C.toArray 47):=⟨d _ (Nat.le_refl _),by rw[YK];exact Zb⟩
 rw[←YK];have N1:=N.still k1;have W1:=W.still k1;clear YK;have R1:=ZA N1.ZG.2 N1.pt.store.len;have JZ:=Za N1.ZG.2;have hs1:=Za x1.2;have r1:rd h1 ⟨h.size,0,none⟩ 5=some x.C:=Zq x1.2 rfl;refine VS.z (h1.size) [6] (.p 0 (.p 1 (.p 2 (.q 3 (.p 4 (.q 5 (.w 6 .nil))))))) mixed (by kernel_rfl) ?_;simp -implicitDefEqProofs only[go_sem,↓reduceIte,R1.known,JZ,r1,hs1];have km:=XZ (K:=fun _ _=>True) (x:=.agg x.C.toArray) (n:=s) Th N1.pt.known.2 (P:=Tryz.prog);rw[XZ Th N1.pt.known.2];have k2:Kp (fun t=>t=.known i) o h1 o (h1.setIfInBounds a.known (Xu (ins (UJ Vi n.known) s (.agg x.C.toArray)))):=(Kp.refl k1.ZX (fun t=>t=.known i)).set N1.pt.known.1 rfl _;have m2:QG o (.known i) (h1.setIfInBounds a.known (Xu (ins (UJ Vi n.known) s (.agg x.C.toArray)))) a.known (UJ Vi (ins n.known s x)):=
  ⟨N1.pt.known.1,by rw[Zy N1.pt.known.2,Sh];rfl⟩
 have N2:ZM o (h1.setIfInBounds a.known (Xu (ins (UJ Vi n.known) s (.agg x.C.toArray)))) wb i nb a (Ud n s x):=⟨N1.ZG.Zd k2 (by intro e;cases e),N1.pt.jz k2 m2⟩
 have W2:=W1.Zd k2 (by rintro t rfl;simp[Tg.of]);have K2:Kp (QU i) o h o (h1.setIfInBounds a.known (Xu (ins (UJ Vi n.known) s (.agg x.C.toArray)))):=(ZF k1).trans (k2.mono fun t q=>.inr (.inr (.inr (.inl q))));generalize (h1.setIfInBounds a.known (Xu (ins (UJ Vi n.known) s (.agg x.C.toArray))))=h2 at *;clear km;unfold Wq;obtain⟨L,hL⟩:=Zx ((Ud n s x).known.length);have hLb:L≤100000000001:=by
  rw[hL];unfold Ud;simp only[Pc];split<;>omega
 obtain⟨n0,HS⟩:=Zx (Ud n s x);rw[←HS]at N2 hL ⊢;rw[←hL];have hl0:n0.log.length≤100000000000:=by rw[HS];exact hl
 have hq0:n0.queue.length≤1000000000000:=by rw[HS];exact hq
 have hw0:n0.waiting.length≤1000000000000:=by rw[HS];exact hw
 clear N1 W1 R1 JZ hs1 r1 k2 m2 N W hk hl hq hw HS k1 x1;simp -implicitDefEqProofs only[go_sem,↓reduceIte];refine VS.ZW (fun F g=>F 0=.pointer (some ⟨wb,0,none⟩)∧F 1=.pointer (some ⟨nb,0,none⟩)∧∃o' a' XA m ts f j,Kp (QU i) o h o' g∧ZM o' g wb i nb a' m∧ZH o' g wb Yb XA fl bad (told++ts)∧f+j=L+1∧m.known=n0.known∧m.log.length=n0.log.length+j ∧
   m.queue.length≤1000000000000∧m.waiting.length≤1000000000000∧ts.length≤j∧(∀j',j'<j→(Yv n0.known ((n0.log.length+j':Nat):Int)).isSome=true)∧(YH (L+1) n0).1=(YH f m).1∧(YH (L+1) n0).2=ts++(YH f m).2)
  (fun F g=>n0.log.length+L+2-fb (hc g ⟨nb,11,none⟩)) rfl ⟨rfl,rfl,o,a,YO,n0,[],L+1,0,K2,N2,by rw[List.append_nil];exact W2,rfl,rfl,rfl,hq0,hw0,Nat.le_refl _,fun j' h=>by omega,rfl,rfl⟩ ?_
 rintro F g ⟨f0,f1,o',a',XA,m,ts,f,j,K,M,V,hf,dy,eI,hmq,hmw,hts,hjs,g1,g2⟩;have R:=ZA M.ZG.2 M.pt.store.len;have xh:=Za M.ZG.2;obtain⟨lp,lc,HD,hlc⟩:=YG.isSlice M.pt.log;have mu:fb (hc g ⟨nb,11,none⟩)=m.log.length:=by rw[R.log,HD];rfl
 rw[mu];have R11:=R.log;rw[HD]at R11;have lk:=fun (K:Value→Hp→Prop)=>Yz (K:=K) (n:=(m.log.length:Int)) (c:=true) Th OU M.pt.known.2;have VF:=fun (K:Value→Hp→Prop) (x:Obj)=>Yz (h:=g.push x) (K:=K) (n:=(m.log.length:Int)) (c:=true) Th OU ((Zt (Za M.pt.known.2)).trans M.pt.known.2);rw[Xt]at lk;simp only[Xt]at VF;simp -implicitDefEqProofs only[go_sem,↓reduceIte,f0,f1]
 cases hx:Yv m.known (m.log.length:Int) with
 | none=>
  rw[hx]at lk;simp only[hx,Option.map_none,Option.getD_none,Option.isSome_none,↓reduceIte]at lk VF;have e:f≠0→YH f m=(m,[]):=fun YA=>by
   obtain⟨f',rfl⟩:∃f',f=f'+1:=⟨f-1,by omega⟩
   unfold YH;rw[hx]
  have e':YH f m=(m,[]):=by
   by_cases q:f=0
   ·subst q;rfl
   ·exact e q
  rw[e']at g1 g2;refine VS.mono (N:=fun F' g'=>Zf g.size g g'∧F' 9=.bool false) ?_ ?_ (fun _ _ _ h=>h) (fun _ _ h=>h)
  ·refine VS.z (g.size) [9,14] (.p 0 (.p 1 (.p 2 (.q 3 (.p 4 (.p 5 (.p 6 (.q 7 (.p 8 (.or 9 (.p 10 (.p 11 (.p 12 (.s 13 (.w 14 (.p 15 .nil)))))) (.s 13 (.w 9 (.p 10 (.p 11 (.p 12 (.w 14 (.p 15 .nil))))))))))))))))) mixed (by kernel_rfl) ?_;simp -implicitDefEqProofs only[go_sem,↓reduceIte,f0,f1,R.known,R11,xh,lk,VF]
   repeat' (first|exact Zf.refl _ _|exact Zf.push (Nat.le_refl _) _|refine And.intro ?_ ?_)
  ·rintro F' g' ⟨b,f9⟩;simp -implicitDefEqProofs only[go_sem,↓reduceIte,f9];rw[g1,g2,List.append_nil];exact⟨o',a',XA,K.Z2 b,M.still (ZE K.ZX b),V.still (ZE K.ZX b)⟩
 | some y=>
  rw[hx]at lk;simp only[hx,Option.map_some,Option.getD_some,Option.isSome_some,↓reduceIte]at lk VF;refine VS.mono (N:=fun F' g'=>Zf g.size g g'∧F' 0=.pointer (some ⟨wb,0,none⟩)∧F' 1=.pointer (some ⟨nb,0,none⟩)∧F' 9=.bool true∧F' 8=.pointer (some ⟨g.size,0,none⟩)∧g'[g.size]? = some (.cells y.C.toArray 47)) ?_ ?_ (fun _ _ _ h=>h) (fun _ _ h=>h)
  ·refine VS.z (g.size) [9,14] (.p 0 (.p 1 (.p 2 (.q 3 (.p 4 (.p 5 (.p 6 (.q 7 (.p 8 (.or 9 (.p 10 (.p 11 (.p 12 (.s 13 (.w 14 (.p 15 .nil)))))) (.s 13 (.w 9 (.p 10 (.p 11 (.p 12 (.w 14 (.p 15 .nil))))))))))))))))) mixed (by kernel_rfl) ?_;simp -implicitDefEqProofs only[go_sem,↓reduceIte,f0,f1,R.known,R11,xh,lk,VF,Vi];have gp:∀x:Obj,(g.push x)[g.size]? = some x:=fun x=>Zb
   repeat' (first|exact Zf.refl _ _|exact Zf.push (Nat.le_refl _) _|exact gp _|refine And.intro ?_ ?_)
  ·rintro F2 g2 ⟨b2,f20,f21,f29,f28,x2⟩;simp -implicitDefEqProofs only[go_sem,↓reduceIte,f29];have kb:=ZE K.ZX b2;have M2:=M.still kb;have V2:=V.still kb;have bx2:ZR o' g2 g.size (.cells y.C.toArray 47):=⟨K.ZX _ (Nat.le_refl _),x2⟩
   have K2:=K.Z2 b2;have T7:=xh;clear R R11 lk VF xh mu;have R2:=ZA M2.ZG.2 M2.pt.store.len;have J9:=Za M2.ZG.2;have hs2:=Za x2;have r2:rd g2 ⟨g.size,0,none⟩ 5=some y.C:=Zq x2 rfl;refine VS.z (g2.size) [7,10] (.p 0 (.p 1 (.p 2 (.p 3 (.q 4 (.q 5 (.s 6 (.w 7 (.p 8 (.p 9 (.w 10 .nil))))))))))) mixed (by kernel_rfl) ?_;simp -implicitDefEqProofs only[go_sem,↓reduceIte,f20,f21,f28,R2.log,J9,hs2,r2];have k3:=ZY K2.ZX (.cells y.C.toArray 47);refine NX (l:=m.log) (M2.still k3).pt.log k3.ZX Zb (by omega) ?_;intro p c o3 g3 w3 kk3;have k3':Kp (fun t=>t=.log i) o' g2 o3 g3:=(ZF k3).trans kk3;have b3:=M2.ZG.Zd k3' (by intro e;cases e);have w:=(Y0 b3.2 M2.pt.store.len).log (.slice p (m.log.length+1) c) rfl;simp -implicitDefEqProofs only[go_sem,↓reduceIte,w];have M4:=(M2.pt.xd k3' w3).put k3'.ZX b3;have kn:Kp (fun t=>t=.node i) o3 g3 o3 (g3.setIfInBounds nb (Xp { m with log:=m.log++[y] } { a' with log:=.slice p (m.log.length+1) c })):=(Kp.refl k3'.ZX (fun t=>t=.node i)).set b3.1 rfl _;have V4:=(V2.Zd k3' (by rintro t rfl;simp[Tg.of])).Zd kn (by rintro t rfl;simp[Tg.of]);have x4:=(bx2.Zd k3').Zd kn;have K4:Kp (QU i) o h o3 (g3.setIfInBounds nb (Xp { m with log:=m.log++[y] } { a' with log:=.slice p (m.log.length+1) c })):=
    (K2.trans (k3'.mono fun t q=>.inr (.inr (.inr (.inr (.inl q)))))).trans (kn.mono fun t q=>.inr (.inr (.inl q)))
   obtain⟨g4,OZ⟩:=Zx (g3.setIfInBounds nb (Xp m { a' with log:=.slice p (m.log.length+1) c }));rw[show Xp { m with log:=m.log++[y] } { a' with log:=.slice p (m.log.length+1) c } = Xp m { a' with log:=.slice p (m.log.length+1) c } from rfl,←OZ]at M4 V4 x4 K4;rw[←OZ];clear OZ kn;have R4:=ZA M4.ZG.2 M4.pt.store.len;have Li:=Za M4.ZG.2;have hs4:=Za x4.2;have r4:rd g4 ⟨g.size,0,none⟩ 5=some y.C:=Zq x4.2 rfl;have call:=fun G=>eY T G m.store M4.pt.store y;have R4s:rd g4 ⟨nb,12,none⟩ 40=some m.store:=R4.store;have hD:=(M4.pt.store.do y)
   have hD0:Ea ({ m with log:=m.log++[y] }:Nd).store y=Ea m.store y:=rfl;rw[hD0]at hD;obtain⟨D,hDe⟩:=Zx (Ea m.store y);obtain⟨E,hE⟩:=Zx (QI m.store y);obtain⟨c1,Us⟩:=Zx (Pv m.store y);obtain⟨c2,HU⟩:=Zx (Ih m.store y);rw[←hDe]at hD;rw[←hDe,←hE,←Us,←HU]at call;have MU:=hD.len;have BC:=hD.one;unfold Vi at call;have I3:=ZJ (zs:=Yn) (vs:=D) (by rw[MU];rfl);unfold Yn at I3;simp only[rep,List.cons_append,List.nil_append]at I3;have wA:∀(G:Hp) (k:Nat),G[k]? = some (.cells Yn.toArray 43)→wr G ⟨k,0,none⟩ D=some (G.setIfInBounds k (.cells D.toArray 43)):=fun G k hx=>by
    rw[ZU hx 0 D,ZJ (by rw[MU];rfl),if_pos ⟨by rw[MU];simp[Yn,rep],BC⟩]
   have wB:∀(G:Hp) (k:Nat),G[k]? = some (.cells [.int .i64 0,.int .i64 0].toArray 39)→wr G ⟨k,0,none⟩ [.int .i64 c1,.int .i64 c2]=some (G.setIfInBounds k (.cells [.int .i64 c1,.int .i64 c2].toArray 39)):=fun G k hx=>by
    rw[ZU hx 0 _];rfl
   have gl:∀(G:Hp) (X Y:Obj),((G.push X).push Y)[G.size]? = some X:=fun G X Y=>by rw[Zt (by simp),Zb]
   have gs:∀(G:Hp) (k:Nat) (X Y:Obj),((G.setIfInBounds k X).push Y)[G.size]? = some Y:=fun G k X Y=>by
    have:=Zb (h:=G.setIfInBounds k X) (o:=Y);rwa [Array.size_setIfInBounds]at this
   have gl':=gs;have gr:∀(G:Hp) (X Y:Obj),((G.push X).push Y)[G.size+1]? = some Y:=fun G X Y=>by
    have:=Zb (h:=G.push X) (o:=Y);rwa [Array.size_push]at this
   refine VS.mono (N:=fun F' g'=>Zf g4.size g4 g'∧F' 0=.pointer (some ⟨wb,0,none⟩)∧F' 1=.pointer (some ⟨nb,0,none⟩)∧F' 8=.pointer (some ⟨g.size,0,none⟩)∧∃A B,F' 10=.pointer (some ⟨A,0,none⟩)∧F' 11=.pointer (some ⟨B,0,none⟩)∧g4.size≤A∧g4.size≤B∧g'[A]? = some (.cells D.toArray 43)∧g'[B]? = some (.cells [.int .i64 c1,.int .i64 c2].toArray 39)) ?_ ?_ (fun _ _ _ h=>h) (fun _ _ h=>h)
   ·refine VS.z (g4.size) [5,12,13] (.p 0 (.p 1 (.p 2 (.q 3 (.q 4 (.or 5 (.p 6 (.p 7 (.p 8 (.p 9 (.or 10 (.s 11 (.w 12 (.w 13 (.p 14 .nil)))) (.s 11 (.s 10 (.w 12 (.w 13 (.p 14 .nil)))))))))) (.or 10 (.or 5 (.p 6 (.p 7 (.p 8 (.p 9 (.s 11 (.w 12 (.w 13 (.p 14 .nil)))))))) (.s 11 (.w 5 (.p 6 (.p 7 (.p 8 (.p 9 (.w 12 (.w 13 (.p 14 .nil)))))))))) (.s 11 (.or 5 (.p 6 (.p 7 (.p 8 (.p 9 (.s 10 (.w 12 (.w 13 (.p 14 .nil)))))))) (.s 10 (.w 5 (.p 6 (.p 7 (.p 8 (.p 9 (.w 12 (.w 13 (.p 14 .nil)))))))))))))))))) mixed (by kernel_rfl) ?_;simp -implicitDefEqProofs only[go_sem,↓reduceIte,f20,f21,f28,R4s,Li,hs4,r4]
    repeat' (first|with_reducible exact Zf.refl _ _|with_reducible exact Zf.push (by omega) _|with_reducible refine And.intro ?_ ?_)
    all_goals first
     | (refine (call g4).use ?_
        rintro _ g5 ⟨rfl,b5⟩;have s5:=b5.size;simp -implicitDefEqProofs only[go_sem,↓reduceIte,b5,MU,BC,I3];refine⟨⟨f20,f21,f28,_,_,rfl,rfl,s5,by omega,gl _ _ _,gr _ _ _⟩,⟨f20,f21,f28,_,_,rfl,rfl,by omega,s5,gr _ _ _,gl _ _ _⟩⟩)
     | (refine (call (g4.push (.cells _ 43))).use ?_
        rintro _ g5 ⟨rfl,b5⟩;have s5:=b5.size;rw[Array.size_push]at s5;have B5:Zf g4.size g4 g5:=(Zf.push (Nat.le_refl _) _).trans (b5.mono (by simp));have xA:=b5.get (k:=g4.size) (by simp) Zb;have TZ:=wA _ _ xA;have zA:=Za xA;have gA:=Zy (o:=.cells D.toArray 43) xA;simp -implicitDefEqProofs only[go_sem,↓reduceIte,B5,MU,BC,TZ,zA];exact⟨f20,f21,f28,_,_,rfl,rfl,Nat.le_refl _,by omega,by rw[Zt (by simpa using zA)];exact gA,gs _ _ _ _⟩)
     | (refine (call (g4.push (.cells _ 39))).use ?_
        rintro _ g5 ⟨rfl,b5⟩;have s5:=b5.size;rw[Array.size_push]at s5;have B5:Zf g4.size g4 g5:=(Zf.push (Nat.le_refl _) _).trans (b5.mono (by simp));have xB:=b5.get (k:=g4.size) (by simp) Zb;have It:=wB _ _ xB;have zB:=Za xB;have gB:=Zy (o:=.cells [.int .i64 c1,.int .i64 c2].toArray 39) xB;simp -implicitDefEqProofs only[go_sem,↓reduceIte,B5,MU,BC,It,I3,zB];exact⟨f20,f21,f28,_,_,rfl,rfl,by omega,Nat.le_refl _,gl' _ _ _ _,by rw[Zt (by simpa using zB)];exact gB⟩)
     | (refine (call ((g4.push (.cells _ 43)).push (.cells _ 39))).use ?_
        rintro _ g5 ⟨rfl,b5⟩;have s5:=b5.size;rw[Array.size_push,Array.size_push]at s5;have B5:Zf g4.size g4 g5:=((Zf.push (Nat.le_refl _) _).Yi (by simp) _).trans (b5.mono (by simp;omega));have xA:=b5.get (k:=g4.size) (by simp;omega) (gl _ _ _);have xB:=b5.get (k:=g4.size+1) (by simp) (gr _ _ _);have TZ:=wA _ _ xA;have zA:=Za xA;have NY:=(Yf (o:=.cells D.toArray 43) (show g4.size≠g4.size+1 by omega)).trans xB;have It:=wB _ _ NY;have zB:=Za NY;simp -implicitDefEqProofs only[go_sem,↓reduceIte,B5,MU,BC,TZ,zA,It,zB];exact⟨f20,f21,f28,_,_,rfl,rfl,by omega,by omega,(Yf (by omega)).trans (Zy xA),Zy NY⟩)
     | (refine (call ((g4.push (.cells _ 39)).push (.cells _ 43))).use ?_
        rintro _ g5 ⟨rfl,b5⟩;have s5:=b5.size;rw[Array.size_push,Array.size_push]at s5;have B5:Zf g4.size g4 g5:=((Zf.push (Nat.le_refl _) _).Yi (by simp) _).trans (b5.mono (by simp;omega));have xB:=b5.get (k:=g4.size) (by simp;omega) (gl _ _ _);have xA:=b5.get (k:=g4.size+1) (by simp) (gr _ _ _);have TZ:=wA _ _ xA;have zA:=Za xA;have NY:=(Yf (o:=.cells D.toArray 43) (show g4.size+1≠g4.size by omega)).trans xB;have It:=wB _ _ NY;have zB:=Za NY;simp -implicitDefEqProofs only[go_sem,↓reduceIte,B5,MU,BC,TZ,zA,It,zB];exact⟨f20,f21,f28,_,_,rfl,rfl,by omega,by omega,(Yf (by omega)).trans (Zy xA),Zy NY⟩)
   ·rintro F5 g5 ⟨b5,f50,f51,f58,A,B,f5A,f5B,hA,hB,yA,yB⟩;have GC:=ZE K4.ZX b5;have M5:=M4.still GC;have V5:=V4.still GC;have x5:=x4.Zd GC;have K5:=K4.Z2 b5;have z5:=Za M5.ZG.2;have rA:rd g5 ⟨A,0,none⟩ 40=some D:=Zq yA MU;obtain⟨g6,w6,M6,k6⟩:=ZV.write (n:={ m with log:=m.log++[y],store:=D }) { M5.pt with store:=hD } K5.ZX M5.ZG ((Y0 M5.ZG.2 M5.pt.store.len).store D MU BC);have V6:=V5.Zd k6 (by rintro t rfl;simp[Tg.of]);have x6:=x5.Zd k6;have K6:Kp (QU i) o h o3 g6:=K5.trans (k6.mono fun t q=>.inr (.inr (.inl q)));have xB6:=(show ZR o3 g5 B _ from⟨K4.ZX _ (by omega),yB⟩).Zd k6;have R6:=ZA M6.ZG.2 MU;have z6:=Za M6.ZG.2;clear R4 R4s Li hs4 r4 R2 J9 hs2 r2;simp -implicitDefEqProofs only[go_sem,↓reduceIte,f50,f51,f58,f5A,f5B,rA,w6,MU,R6.queue,z5];refine (Cx T g6 o3 (.queue i) _ m.queue g.size y M6.pt.queue K6.ZX x6 (by omega)).use ?_;rintro v7 g7 ⟨q7,k7⟩;obtain⟨p7,c7,rfl,_⟩:=YG.isSlice q7;have b7:=M6.ZG.Zd k7 (by intro e;cases e);obtain⟨g8,w8,M8,k8⟩:=(M6.pt.Gy k7 q7).write k7.ZX b7 ((Y0 b7.2 MU).queue (.slice p7 _ c7) rfl);have z7:=Za b7.2;have V8:=(V6.Zd k7 (by rintro t rfl;simp[Tg.of])).Zd k8 (by rintro t rfl;simp[Tg.of]);have x8:=(x6.Zd k7).Zd k8;have xB8:=(xB6.Zd k7).Zd k8;have K8:Kp (QU i) o h o3 g8:=(K6.trans (k7.mono fun t q=>.inr (.inr (.inr (.inr (.inr (.inl q))))))).trans (k8.mono fun t q=>.inr (.inr (.inl q)));have R8:=ZA M8.ZG.2 MU;have z8:=Za M8.ZG.2;simp -implicitDefEqProofs only[go_sem,↓reduceIte,f50,f51,f58,w8,z7,R8.waiting];refine (Iq T g8 _ m.waiting g.size y M8.pt.waiting.ts x8.2 (by omega)).use ?_;rintro _ g9 ⟨rfl,b9⟩;have kb9:=ZE K8.ZX b9;have M9:=M8.still kb9;have V9:=V8.still kb9;have x9:=x8.Zd kb9;have xB9:=xB8.Zd kb9;have K9:=K8.Z2 b9;have TY:∃f',f=f'+1:=⟨f-1,by
     have:f≠0:=fun q=>by
      subst q;have hj:j=L+1:=by omega
      have:=Cy n0.known n0.log.length (L+2) fun j' hj'=>by
       by_cases q:j'<j
       ·exact hjs j' q
       ·have:j'=j:=by omega
        subst this;rw[←eI,←dy,hx];rfl
      rw[←hL]at this;omega
     omega⟩
    obtain⟨f',rfl⟩:=TY;have lg:YH (f'+1) m=((YH f' (Wp m y)).1,TL m y++(YH f' (Wp m y)).2):=by
     rw[YH,hx]
    rw[lg]at g1 g2;have Zg0:∀j',j'<j+1→(Yv n0.known ((n0.log.length+j':Nat):Int)).isSome=true:=fun j' hj'=>by
     by_cases q:j'<j
     ·exact hjs j' q
     ·have:j'=j:=by omega
      subst this;rw[←eI,←dy,hx];rfl
    have vZ:(m.queue.filter fun z=>decide (z≠y)).length≤m.queue.length:=List.length_filter_le _ _;have mono:∀(G:Hp) (nn:Nd) (aa:NA) (oo:Ow),ZM oo G wb i nb aa nn→nn.log.length=m.log.length+1→n0.log.length+L+2-fb (hc G ⟨nb,11,none⟩)<n0.log.length+L+2-m.log.length:=fun G nn aa oo H hh=>by
     have RR:=ZA H.ZG.2 H.pt.store.len;obtain⟨lp,lc,HD,hlc⟩:=YG.isSlice H.pt.log;have:fb (hc G ⟨nb,11,none⟩)=nn.log.length:=by rw[RR.log,HD];rfl
     rw[this,hh];omega
    by_cases hy:y∈m.waiting
    case neg=>
     have e1:Tj m.waiting y = -1:=by unfold Tj;rw[if_neg hy]
     have e2:TL m y=[]:=by unfold TL;rw[if_neg hy]
     have e3:m.waiting.erase y=m.waiting:=List.erase_of_not_mem hy;rw[e2]at g2;have e4:Wp m y = { m with log:=m.log++[y],store:=D,queue:=m.queue.filter (fun z=>decide (z≠y)) }:=by unfold Wp;rw[e3,←hDe]
     rw[e4]at g1 g2;rw[List.nil_append]at g2;simp -implicitDefEqProofs only[go_sem,↓reduceIte,e1];unfold Yt;refine⟨⟨f50,f51,o3,_,XA,_,ts,f',j+1,K9,M9,V9,by omega,dy,by simp[eI];omega,by simp only;omega,hmw,by omega,Zg0,g1,g2⟩,mono _ _ _ _ M9 (by simp)⟩
    have e1:0≤Tj m.waiting y:=(OX _ _).2 hy;have e5:Tj m.waiting y=(m.waiting.idxOf y:Nat):=by unfold Tj;rw[if_pos hy]
    obtain⟨r,hr⟩:=Zx (m.waiting.idxOf y);have tI:r<m.waiting.length:=by rw[hr];exact List.idxOf_lt_length_of_mem hy
    rw[←hr]at e5;have e2:TL m y=[⟨m.me,y.c,y.s,Pv m.store y,Ih m.store y⟩]:=by unfold TL;rw[if_pos hy]
    have e3:m.waiting.erase y=m.waiting.take r++m.waiting.drop (r+1):=by
     rw[List.erase_eq_eraseIdx_of_idxOf,List.eraseIdx_eq_take_drop_succ];exact hr.symm
    rw[e2]at g2;have R9:=ZA M9.ZG.2 MU;have z9:=Za M9.ZG.2;simp -implicitDefEqProofs only[go_sem,↓reduceIte,e1,e5,f50,f51,f58,R9.waiting,z9];refine (Cu T g9 o3 (.waiting i) _ m.waiting.length r _ M9.pt.waiting K9.ZX (xf _) tI (by omega)).use ?_;rintro v10 g10 ⟨q10,jA⟩;have wl:(m.waiting.erase y).length=m.waiting.length-1:=by rw[e3,List.length_append,List.length_take,List.length_drop];omega
    have Q10:QT o3 (.waiting i) g10 v10 (m.waiting.erase y):=by
     unfold QT;rw[wl,e3,Yj,←Rc OW _ _ (by omega),←Tm OW _ _ (by omega)];exact q10
    obtain⟨p10,c10,rfl,_⟩:=YG.isSlice Q10;have b10:=M9.ZG.Zd jA (by intro e;cases e);obtain⟨tQ,w11,M11,lu⟩:=(M9.pt.MR jA Q10).write jA.ZX b10 ((Y0 b10.2 MU).waiting (.slice p10 _ c10) rfl);have z10:=Za b10.2;have V11:=(V9.Zd jA (by rintro t rfl;simp[Tg.of])).Zd lu (by rintro t rfl;simp[Tg.of]);have x11:=(x9.Zd jA).Zd lu;have Zg1:=(xB9.Zd jA).Zd lu;have K11:Kp (QU i) o h o3 tQ:=(K9.trans (jA.mono fun t q=>.inr (.inr (.inr (.inr (.inr (.inr q))))))).trans (lu.mono fun t q=>.inr (.inr (.inl q)));have R11:=ZA M11.ZG.2 MU;have z11:=Za M11.ZG.2;have U11:=Y8 V11.ZG.2;have ZpX:=Za V11.ZG.2;have rx1:hc tQ ⟨g.size,1,none⟩=some (.int .i64 y.c):=Zh x11.2;have rx2:hc tQ ⟨g.size,2,none⟩=some (.int .i64 y.s):=Zh x11.2;have rB:rd tQ ⟨B,0,none⟩ 2=some [.int .i64 c1,.int .i64 c2]:=Zq Zg1.2 rfl;have ZpZ:=Za x11.2;have Zp0:=Za Zg1.2;simp -implicitDefEqProofs only[go_sem,↓reduceIte,w11,z10];refine VS.z (tQ.size) [17,21] (.p 0 (.p 1 (.p 2 (.p 3 (.p 4 (.q 5 (.p 6 (.p 7 (.p 8 (.q 9 (.p 10 (.q 11 (.p 12 (.q 13 (.q 14 (.p 15 (.s 16 (.w 17 (.p 18 (.p 19 (.p 20 (.w 21 .nil)))))))))))))))))))))) mixed (by kernel_rfl) ?_;simp -implicitDefEqProofs only[go_sem,↓reduceIte,f50,f51,f58,f5B,U11.told,R11.me,rx1,rx2,rB,z11,ZpX,ZpZ,Zp0];have xj:=ZY K11.ZX (.cells (Il ⟨m.me,y.c,y.s,c1,c2⟩).toArray 132);have V12:=V11.still xj;refine MT (l:=told++ts) (x:=⟨m.me,y.c,y.s,c1,c2⟩) V12.told xj.ZX Zb (by rw[List.length_append];omega) ?_;intro p13 c13 o13 g13 q13 k13;have b13:=V12.ZG.Zd k13 (by intro e;cases e);obtain⟨g14,w14,V14,k14⟩:=V12.fa k13 q13 ((Y8 b13.2).Zaa (.slice p13 _ c13) rfl);have z13:=Za b13.2;simp -implicitDefEqProofs only[go_sem,↓reduceIte,w14,z13];have M14:=((M11.still xj).Zd k13 (by rintro t rfl;simp[Tg.of])).Zd k14 (by rintro t rfl;simp[Tg.of]);have K14:Kp (QU i) o h o13 g14:=(((K11.trans (ZF xj)).trans (k13.mono fun t q=>.inr (.inl q))).trans (k14.mono fun t q=>.inl q))
    have e4:Wp m y = { m with log:=m.log++[y],store:=D,queue:=m.queue.filter (fun z=>decide (z≠y)),waiting:=m.waiting.erase y }:=by unfold Wp;rw[←hDe]
    rw[e4]at g1 g2;rw[←Us,←HU]at g2;obtain⟨ZB9,V15⟩:∃A,ZH o13 g14 wb Yb A fl bad (told++(ts++[⟨m.me,y.c,y.s,c1,c2⟩])):=⟨_,by rw[←List.append_assoc];exact V14⟩
    rw[←List.append_assoc]at g2;unfold Yt;refine⟨⟨f50,f51,o13,_,_,_,ts++[⟨m.me,y.c,y.s,c1,c2⟩],f',j+1,K14,M14,V15,by omega,dy,by simp[eI];omega,by simp only;omega,by simp only;omega,by simp;omega,Zg0,g1,g2⟩,mono _ _ _ _ M14 (by simp)⟩
def Zg2 (o:Ow) (h:Hp) (wb:Nat) (Yb:Nat→Nat) (fl:List Xj) (bad:Nat→Int) (told:List Rr) (h':Hp):Prop:=
 ∃o' XA,Kp eQ o h o' h'∧ZH o' h' wb Yb XA fl bad told
theorem fc (T:World) (h:Hp) (o:Ow) (wb nb:Nat) (Yb:Nat→Nat) (me:Nat) (YO:WA) (fl:List Xj) (bad:Nat→Int) (told:List Rr) (b3 b4 b5 b7:Nat) (l:Xj) (w5 w:Value) (vs:List Vt) (d:UE o h)
  (W:ZH o h wb Yb YO fl bad told) (Io:hc h ⟨nb,0,none⟩=some (.int .i64 me)) (WD:nb<h.size) (Ys:fl.length≤1000000000000)
  (x3:ZR o h b3 (.cells [Zp wb].toArray 67)) (x4:ZR o h b4 (.cells [Zp nb].toArray 74)) (x5:ZR o h b5 (.cells (Y7 l w5).toArray 111)) (x7:ZR o h b7 (.cells [w].toArray 79)) (iv:Wz o h w vs) :
  Zc Tryz.prog T 89 #[Zp b3,Zp b4,Zp b5,Zp b7] h fun v' h'=>Zg2 o h wb Yb (fl++[⟨1,me,l.JM,l.b,Tw,vs⟩]) bad told h':=by
 obtain⟨pw,cw,rfl⟩:=iv.isSlice;refine Zc.Zk (args:=[_,_,_,_]) Tryz.func89 rfl rfl rfl rfl ?_;unfold Zp;have r3:hc h ⟨b3,0,none⟩=some (Zp wb):=Zh x3.2;have r4:hc h ⟨b4,0,none⟩=some (Zp nb):=Zh x4.2;have r5:hc h ⟨b5,1,none⟩=some (.int .i64 l.JM):=Zh x5.2;have r6:rd h ⟨b5,3,none⟩ 2=some [.int .i64 l.b.r,.int .i64 l.b.n]:=by rw[Z9 x5.2 (by simp[Y7])];rfl
 have r7:hc h ⟨b7,0,none⟩=some (.slice pw vs.length cw):=Zh x7.2;simp -implicitDefEqProofs only[go_sem,↓reduceIte,r3,r4,r5,r6,r7];refine (UY T h o wb nb Yb me YO fl bad told l.JM ⟨1,0,0,l.b,Tw,vs⟩ _ d W Io WD iv Ys).use ?_;rintro v' h' ⟨o',XA,k,_,W'⟩;simp -implicitDefEqProofs only[go_sem,↓reduceIte];exact⟨o',XA,k,W'⟩
theorem fe (T:World) (h:Hp) (o:Ow) (wb nb:Nat) (Yb:Nat→Nat) (me:Nat) (YO:WA) (fl:List Xj) (bad:Nat→Int) (told:List Rr) (b3 b4 b5:Nat) (l:Xj) (w5:Value) (d:UE o h)
  (W:ZH o h wb Yb YO fl bad told) (Io:hc h ⟨nb,0,none⟩=some (.int .i64 me)) (WD:nb<h.size) (Ys:fl.length≤1000000000000)
  (x3:ZR o h b3 (.cells [Zp wb].toArray 67)) (x4:ZR o h b4 (.cells [Zp nb].toArray 74)) (x5:ZR o h b5 (.cells (Y7 l w5).toArray 111)) :
  Zc Tryz.prog T 94 #[Zp b3,Zp b4,Zp b5] h fun v' h'=>Zg2 o h wb Yb (fl++[⟨3,me,l.JM,JE,l.v,[]⟩]) bad told h':=by
 refine Zc.Zk (args:=[_,_,_]) Tryz.func94 rfl rfl rfl rfl ?_;unfold Zp;have r3:hc h ⟨b3,0,none⟩=some (Zp wb):=Zh x3.2;have r4:hc h ⟨b4,0,none⟩=some (Zp nb):=Zh x4.2;have r5:hc h ⟨b5,1,none⟩=some (.int .i64 l.JM):=Zh x5.2;have r6:rd h ⟨b5,5,none⟩ 8=some (Zo l.v):=by rw[Z9 x5.2 (by simp[Y7])];rfl
 unfold Zo at r6;simp -implicitDefEqProofs only[go_sem,↓reduceIte,r3,r4,r5,r6];refine (UY T h o wb nb Yb me YO fl bad told l.JM ⟨3,0,0,JE,l.v,[]⟩ (.slice none 0 0) d W Io WD (Im.nil _ _ _ _) Ys).use ?_;rintro v' h' ⟨o',XA,k,_,W'⟩;simp -implicitDefEqProofs only[go_sem,↓reduceIte];exact⟨o',XA,k,W'⟩
def Zcn (i:Nat) (t:Tg):Prop:=t=.world∨t=.Zn∨t=.node i∨t=.prom i∨t=.Xo i
theorem xm (T:World) (h:Hp) (o:Ow) (wb i nb:Nat) (Yb:Nat→Nat) (YO:WA) (fl:List Xj) (bad:Nat→Int) (told:List Rr) (a:NA) (n:Nd) (acc:QK) (to:Int) (b:YN) (vs:List Vt) (b6 b4 b9:Nat) (u:Value) (d:UE o h)
  (N:ZM o h wb i nb a n) (W:ZH o h wb Yb YO fl bad told) (Ys:fl.length≤1000000000000)
  (x6:SE o h b6 acc) (x4:ZR o h b4 (.cells [Zp nb].toArray 74)) (x9:ZR o h b9 (.cells [u].toArray 1)) (hu:qC o h wb nb u to b vs) :
  Zc Tryz.prog T 91 #[Zp b6,Zp b4,Zp b9] h fun v' h'=>∃o' a' XA,Kp (Zcn i) o h o' h'∧ZM o' h' wb i nb a' { n with own:=acc }∧ZH o' h' wb Yb XA (fl++[⟨1,n.me,to,b,Tw,vs⟩]) bad told:=by
 obtain⟨wa,xa,ia⟩:=x6;obtain⟨pa,ca,rfl⟩:=ia.isSlice;obtain⟨b3,ak,b5,b7,l,w5,w,rfl,y3,y4,y5,rfl,rfl,y7,iv⟩:=hu;have WD:=Za N.ZG.2;refine Zc.Zk (args:=[_,_,_]) Tryz.func91 rfl rfl rfl rfl ?_;unfold Zp;have r4:hc h ⟨b4,0,none⟩=some (Zp nb):=Zh x4.2;have r6:rd h ⟨b6,0,none⟩ 3=some [.int .i64 acc.p.r,.int .i64 acc.p.n,.slice pa acc.l.length ca]:=Zq xa.2 rfl;obtain⟨g1,w1,N1,k1⟩:=ZV.write (a:={ a with YP:=.slice pa acc.l.length ca }) (n:={ n with own:=acc }) { N.pt with YP:=ia } d N.ZG ((Y0 N.ZG.2 N.pt.store.len).own acc.p.r acc.p.n (.slice pa acc.l.length ca) rfl);have W1:=W.Zd k1 (by rintro t rfl;simp[Tg.of]);have x91:=x9.Zd k1;have r9:hc g1 ⟨b9,0,none⟩=some (WM 89 [b3,ak,b5,b7]):=Zh x91.2;unfold WM at r9;simp only[List.map]at r9;unfold Zp at r4 r9;simp -implicitDefEqProofs only[go_sem,↓reduceIte,r4,r6,w1,WD,r9];have R1:=ZA N1.ZG.2 N1.pt.store.len;refine (fc T g1 o wb nb Yb n.me YO fl bad told b3 ak b5 b7 l w5 w vs k1.ZX W1 R1.me (Za N1.ZG.2) Ys (y3.Zd k1) (y4.Zd k1) (y5.Zd k1) (y7.Zd k1) (iv.Zd k1)).use ?_;rintro v' h' ⟨o',XA,k,W'⟩;simp -implicitDefEqProofs only[go_sem,↓reduceIte];exact⟨o',_,XA,(k1.mono fun t q=>.inr (.inr (.inl q))).trans (k.mono fun t q=>q.elim .inl fun q=>.inr (.inl q)),N1.Zd k (by rintro t (rfl|rfl)<;>simp[Tg.of]),W'⟩
theorem xo (T:World) (h:Hp) (o:Ow) (wb i nb:Nat) (Yb:Nat→Nat) (YO:WA) (fl:List Xj) (bad:Nat→Int) (told:List Rr) (a:NA) (n:Nd) (acc:QK) (to:Int) (x:Vt) (b6 b4 b9:Nat) (u:Value) (d:UE o h)
  (N:ZM o h wb i nb a n) (W:ZH o h wb Yb YO fl bad told) (Ys:fl.length≤1000000000000)
  (x6:SE o h b6 acc) (x4:ZR o h b4 (.cells [Zp nb].toArray 74)) (x9:ZR o h b9 (.cells [u].toArray 1)) (hu:qD o h wb nb u to x) :
  Zc Tryz.prog T 97 #[Zp b6,Zp b4,Zp b9] h fun v' h'=>∃o' a' XA,Kp (Zcn i) o h o' h'∧ZM o' h' wb i nb a' { n with own:=acc }∧ZH o' h' wb Yb XA (fl++[⟨3,n.me,to,JE,x,[]⟩]) bad told:=by
 obtain⟨wa,xa,ia⟩:=x6;obtain⟨pa,ca,rfl⟩:=ia.isSlice;obtain⟨b3,ak,b5,l,w5,rfl,y3,y4,y5,rfl,rfl⟩:=hu;have WD:=Za N.ZG.2;refine Zc.Zk (args:=[_,_,_]) Tryz.func97 rfl rfl rfl rfl ?_;unfold Zp;have r4:hc h ⟨b4,0,none⟩=some (Zp nb):=Zh x4.2;have r6:rd h ⟨b6,0,none⟩ 3=some [.int .i64 acc.p.r,.int .i64 acc.p.n,.slice pa acc.l.length ca]:=Zq xa.2 rfl;obtain⟨g1,w1,N1,k1⟩:=ZV.write (a:={ a with YP:=.slice pa acc.l.length ca }) (n:={ n with own:=acc }) { N.pt with YP:=ia } d N.ZG ((Y0 N.ZG.2 N.pt.store.len).own acc.p.r acc.p.n (.slice pa acc.l.length ca) rfl);have W1:=W.Zd k1 (by rintro t rfl;simp[Tg.of]);have x91:=x9.Zd k1;have r9:hc g1 ⟨b9,0,none⟩=some (WM 94 [b3,ak,b5]):=Zh x91.2;unfold WM at r9;simp only[List.map]at r9;unfold Zp at r4 r9;simp -implicitDefEqProofs only[go_sem,↓reduceIte,r4,r6,w1,WD,r9];have R1:=ZA N1.ZG.2 N1.pt.store.len;refine (fe T g1 o wb nb Yb n.me YO fl bad told b3 ak b5 l w5 k1.ZX W1 R1.me (Za N1.ZG.2) Ys (y3.Zd k1) (y4.Zd k1) (y5.Zd k1)).use ?_;rintro v' h' ⟨o',XA,k,W'⟩;simp -implicitDefEqProofs only[go_sem,↓reduceIte];exact⟨o',_,XA,(k1.mono fun t q=>.inr (.inr (.inl q))).trans (k.mono fun t q=>q.elim .inl fun q=>.inr (.inl q)),N1.Zd k (by rintro t (rfl|rfl)<;>simp[Tg.of]),W'⟩
theorem Uf.ins {o:Ow} {h:Hp} {k:Int} {w:Value} {vs:List Vt} (iv:Wz o h w vs):∀{pv:List (Int × Value)} {pr:List (Int × List Vt)},Uf o h pv pr→Uf o h (Go.V.ins pv k w) (Go.V.ins pr k vs):=by
 intro pv pr s
 induction s with
 | nil=>exact .cons ⟨rfl,iv⟩ .nil
 | @cons a b l m Ff _ ih=>
  obtain⟨a1,a2⟩:=a;obtain⟨b1,b2⟩:=b;obtain⟨rfl,h2⟩:=Ff;show Dm _ (if a1=k then (a1,w) :: l else (a1,a2) :: Go.V.ins l k w) (if a1=k then (a1,vs) :: m else (a1,b2) :: Go.V.ins m k vs);by_cases q:a1=k
  ·rw[if_pos q,if_pos q];exact .cons ⟨rfl,iv⟩ (by assumption)
  ·rw[if_neg q,if_neg q];exact .cons ⟨rfl,h2⟩ ih
theorem Uf.length {o:Ow} {h:Hp} {pv:List (Int × Value)} {pr:List (Int × List Vt)} (s:Uf o h pv pr):pv.length=pr.length:=by
 induction s with
 | nil=>rfl
 | cons _ _ ih=>simp[ih]
theorem Uf.Yv {o:Ow} {h:Hp} {pv:List (Int × Value)} {pr:List (Int × List Vt)} (s:Uf o h pv pr) (k:Int):(Go.V.Yv pv k=none∧Go.V.Yv pr k=none)∨∃w vs,Go.V.Yv pv k=some w∧Go.V.Yv pr k=some vs∧Wz o h w vs:=by
 induction s with
 | nil=>exact .inl ⟨rfl,rfl⟩
 | @cons a b l m Ff _ ih=>
  obtain⟨a1,a2⟩:=a;obtain⟨b1,b2⟩:=b;obtain⟨rfl,h2⟩:=Ff;unfold Go.V.Yv;by_cases q:a1=k
  ·rw[if_pos q,if_pos q];exact .inr ⟨_,_,rfl,rfl,h2⟩
  ·rw[if_neg q,if_neg q];exact ih
theorem YR.ff {o:Ow} {i:Nat} {h:Hp} {ra:RA} {r:JF} (s:YR o i h ra r) (d:UE o h) {k:Int} {w:Value} {vs:List Vt} (iv:Wz o h w vs) :
  Kp (fun t=>t=.prom i) o h o (h.setIfInBounds ra.pb (Xu (ins ra.pv k w)))∧YR o i (h.setIfInBounds ra.pb (Xu (ins ra.pv k w))) { ra with pv:=ins ra.pv k w } { r with prom:=ins r.prom k vs }:=by
 have kk:Kp (fun t=>t=.prom i) o h o (h.setIfInBounds ra.pb (Xu (ins ra.pv k w))):=(Kp.refl d (fun t=>t=.prom i)).set s.prom.1 rfl _;exact⟨kk,s.ZG.Zd kk (by intro e;cases e),⟨s.prom.1,Zy s.prom.2⟩,Uf.Zd (Uf.ins iv s.SD) kk,s.prop.Zd kk (by intro e;cases e),s.Xz.Zd kk (by intro e;cases e),s.Ti.Zd kk (fun _ e=>by cases e),s.keys⟩
theorem ZV.jB {o o':Ow} {h h':Hp} {wb i nb:Nat} {a:NA} {n:Nd} (s:ZV o h wb i nb a n) (k:Kp (fun t=>t=.Xo i) o h o' h') (hp:n.ZB=none):ZV o' h' wb i nb a n:=
 ⟨s.data.Zd k,s.YP.Zd k,s.Zj.Zd k (fun t ht=>by rcases ht with rfl|rfl|rfl|rfl|⟨z,rfl⟩<;>intro e<;>cases e),s.known.Zd k (by intro e;cases e),s.log.Zd k (by intro e;cases e),s.queue.Zd k (by intro e;cases e),s.waiting.Zd k (by intro e;cases e),s.inbox.Zd k (by intro e;cases e),by
  have:=s.ZB;rw[hp]at this ⊢;exact this,s.store⟩
theorem MV {n:Nd} {a:NA} {ra ra':RA} (r:Option JF) (h:a.Zj=some ra) (hb:ra'.rb=ra.rb):Xp { n with Zj:=r } { a with Zj:=some ra' } = Xp n a:=by
 unfold Xp UN;simp only[h,Pz,hb]
def Zp5 (i:Nat) (t:Tg):Prop:=t=.node i∨t=.prom i∨t=.Xo i
theorem xp (T:World) (h:Hp) (o:Ow) (wb i nb:Nat) (a:NA) (n:Nd) (acc:QK) (vs:List Vt) (cur:Bool) (v:Value) (d:UE o h)
  (N:ZM o h wb i nb a n) (hp:n.ZB=none) (hv:ZgU o h i nb a.Zj v acc vs cur) :
  ∃b6 b4 b7 b5,v=WM 98 [b6,b4,b7,b5]∧Zc Tryz.prog T 98 #[Zp b6,Zp b4,Zp b7,Zp b5] h fun v' h'=>∃o' a',Kp (Zp5 i) o h o' h'∧ZM o' h' wb i nb a' { n with own:=acc,Zj:=if cur=true then n.Zj.map (fun r=>{ r with prom:=ins r.prom n.me vs }) else n.Zj }:=by
 obtain⟨b6,b4,b7,b5,w,rb,rfl,⟨wa,xa,ia⟩,x4,x7,iv,x5,Zg3⟩:=hv;obtain⟨pa,ca,rfl⟩:=ia.isSlice;obtain⟨pw,cw,rfl⟩:=iv.isSlice;refine⟨b6,b4,b7,b5,rfl,?_⟩;have WD:=Za N.ZG.2;refine Zc.Zk (args:=[_,_,_,_]) Tryz.func98 rfl rfl rfl rfl ?_;unfold Zp;have r4:hc h ⟨b4,0,none⟩=some (Zp nb):=Zh x4.2;have r6:rd h ⟨b6,0,none⟩ 3=some [.int .i64 acc.p.r,.int .i64 acc.p.n,.slice pa acc.l.length ca]:=Zq xa.2 rfl;obtain⟨g1,w1,N1,k1⟩:=ZV.write (a:={ a with YP:=.slice pa acc.l.length ca }) (n:={ n with own:=acc }) { N.pt with YP:=ia } d N.ZG ((Y0 N.ZG.2 N.pt.store.len).own acc.p.r acc.p.n (.slice pa acc.l.length ca) rfl);unfold Zp at r4;simp -implicitDefEqProofs only[go_sem,↓reduceIte,r4,r6,w1,WD];have y4:=x4.Zd k1;have y5:=x5.Zd k1;have y7:=x7.Zd k1;have q4:hc g1 ⟨b4,0,none⟩=some (Zp nb):=Zh y4.2;have q5:hc g1 ⟨b5,0,none⟩=some (Zp rb):=Zh y5.2;have q7:hc g1 ⟨b7,0,none⟩=some (.slice pw vs.length cw):=Zh y7.2;unfold Zp at q4 q5;have l4:=Za y4.2;have l5:=Za y5.2;have l7:=Za y7.2;have R1:=ZA N1.ZG.2 N1.pt.store.len;have lnb:=Za N1.ZG.2;have xq:=iv.Zd k1;refine VS.z (g1.size) [9] (.q 0 (.p 1 (.p 2 (.q 3 (.q 4 (.p 5 (.p 6 (.q 7 (.q 8 (.w 9 .nil)))))))))) mixed (by kernel_rfl) ?_
 cases cur with
 | true=>
  obtain⟨ra,O0,rfl⟩:=Zg3;have hR:=N1.pt.Zj;have jC:({ a with YP:=.slice pa acc.l.length ca }:NA).Zj=some ra:=O0;rw[jC]at hR
  cases hr:n.Zj with
  | none=>rw[show ({ n with own:=acc }:Nd).Zj=none from hr]at hR;exact hR.elim
  | some r=>
   rw[show ({ n with own:=acc }:Nd).Zj=some r from hr]at hR;have hR:YR o i g1 ra r:=hR;have rr:hc g1 ⟨ra.rb,2,none⟩=some (.map (some ra.pb)):=Zh hR.ZG.2;have BD:=Za hR.ZG.2;simp -implicitDefEqProofs only[go_sem,↓reduceIte,q4,q5,q7,l4,l5,l7,lnb,R1.me,rr,BD];rw[XZ MP hR.prom.2];simp -implicitDefEqProofs only[go_sem,↓reduceIte];obtain⟨k2,R2⟩:=hR.ff k1.ZX (k:=n.me) xq;have k2':Kp (XQ i) o g1 o _:=k2.mono fun t q=>.inr (.inl q);refine⟨o,{ ({ a with YP:=.slice pa acc.l.length ca }:NA) with Zj:=some { ra with pv:=ins ra.pv n.me (.slice pw vs.length cw) } },(k1.mono fun t q=>.inl q).trans (k2.mono fun t q=>.inr (.inl q)),?_,?_⟩
   ·have:=N1.ZG.Zd k2 (by intro e;cases e);rw[←MV (some { r with prom:=ins r.prom n.me vs }) jC (ra':={ ra with pv:=ins ra.pv n.me (.slice pw vs.length cw) }) rfl]at this;exact this
   ·exact ZV.QH N1.pt k2' jC rfl R2
 | false=>
  obtain⟨cs,pb,pv,y1,y2,y3⟩:=Zg3;have z1:=y1.Zd k1 (by intro e;cases e);have z3:=y3.Zd k1 (by intro e;cases e);have rr:hc g1 ⟨rb,2,none⟩=some (.map (some pb)):=by rw[VO z1.2];exact y2
  have BD:=Za z1.2;simp -implicitDefEqProofs only[go_sem,↓reduceIte,q4,q5,q7,l4,l5,l7,lnb,R1.me,rr,BD];rw[XZ MP z3.2];simp -implicitDefEqProofs only[go_sem,↓reduceIte];have k2:Kp (fun t=>t=.Xo i) o g1 o (g1.setIfInBounds pb (Xu (ins pv n.me (.slice pw vs.length cw)))):=(Kp.refl k1.ZX (fun t=>t=.Xo i)).set z3.1 rfl _;exact⟨o,_,(k1.mono fun t q=>.inl q).trans (k2.mono fun t q=>.inr (.inr q)),N1.ZG.Zd k2 (by intro e;cases e),N1.pt.jB k2 hp⟩
end Go.Proofs.YtboeoomhjbcecaaGreatDoor

/- The nodes of a cluster, in plain words: what each piece of the program makes of them. Definitions alone. -/
import Derived.Test.YtboeoomhjbcecaaGreatDoorOpn
import Derived.Test.YtboeoomhjbcecaaGreatDoorMix
import Derived.Test.YtboeoomhjbcecaaGreatDoorChw
import Derived.Test.YtboeoomhjbcecaaGreatDoorPik
import Derived.Test.YtboeoomhjbcecaaGreatDoorW25
namespace Go.Proofs.YtboeoomhjbcecaaGreatDoor
open Go Go.V
set_option linter.unusedSimpArgs false
set_option linter.unusedVariables false
deriving instance DecidableEq for YE
deriving instance DecidableEq for Vt
deriving instance DecidableEq for Jv
abbrev Cm:=Jv
def BD:Cm:=⟨0,0,0,0,0⟩
def Jv.C (x:Jv):List Value:=Qk x.k x.c x.s x.n x.v
def Jv.err (x:Jv):Int:=YH x.k x.c x.s x.n x.v
def Vt.cm (v:Vt):Cm:=⟨v.k,v.c,v.s,v.nm,v.v⟩
def T5 (s:Int) (b:YE) (x:Cm):Vt:=⟨s,b,x.k,x.c,x.s,x.n,x.v⟩
def Jp:YE:=⟨0,0⟩
structure Y7 where
 kind:Int
 JI:Int
 to:Int
 b:YE
 v:Vt
 vs:List Vt
structure Jw where
 b:YE
 prom:List (Int × List Vt)
 begun:Bool
 prop:List (Int × Cm)
 Xy:List (Int × List (Int × Unit))
inductive Cv where
 | Lb (a:QI) (to:Int) (b:YE) (vs:List Vt)
 | MG (a:QI) (to:Int) (v:Vt)
 | own (a:QI) (vs:List Vt) (cur:Bool)
structure Nd where
 me:Nat
 up:Bool
 data:List Nat
 Xe:Int
 own:QI
 heard:YE
 Zi:Option Jw
 known:List (Int × Cm)
 log:List Cm
 store:List Value
 queue:List Cm
 waiting:List Cm
 inbox:List Y7
 ZB:Option Cv
 Xo:Int
structure Ri where
 node:Int
 c:Int
 s:Int
 code:Int
 val:Int
structure Wd where
 nodes:Nat→Nd
 Zn:List Y7
 bad:Nat→Int
 told:List Ri
structure Out where
 n:Nd
 ls:List Y7
 ts:List Ri
def YW (n:Nd) (l:Y7):Out:=
 if Ys n.own.p n.own.l l.b≠0 then ⟨n,[⟨7,n.me,l.JI,n.own.p,Tn,[]⟩],[]⟩
 else if n.own.p=l.b then ⟨n,[⟨1,n.me,l.JI,l.b,Tn,n.own.l⟩],[]⟩
 else if Qc n.data n.Xe l.b≠0 then ⟨n,[],[]⟩
 else ⟨{ n with data:=n.data++Yn (X1 l.b),ZB:=some (.Lb ⟨l.b,n.own.l⟩ l.JI l.b n.own.l) },[],[]⟩
def asked (n:Nd) (l:Y7):Out:=
 if YO n.own.p n.own.l l.v≠0 then ⟨n,[⟨7,n.me,l.JI,n.own.p,Tn,[]⟩],[]⟩
 else if l.v∈n.own.l then ⟨n,[⟨3,n.me,l.JI,Jp,l.v,[]⟩],[]⟩
 else if Ud n.data n.Xe l.v≠0 then ⟨n,[],[]⟩
 else ⟨{ n with data:=n.data++Yn (QH l.v),ZB:=some (.MG ⟨l.v.b,JM n.own.l l.v⟩ l.JI l.v) },[],[]⟩
def F9 (st:List Value) (x:Cm):List Value:=if Uc st x=0 then (JH st x).cells else Yt
def Pg (st:List Value) (x:Cm):Int:=if Uc st x=0 then (JH st x).code else 0
def Ia (st:List Value) (x:Cm):Int:=if Uc st x=0 then (JH st x).val else 0
def UL (n:Nd) (x:Cm):Nd:={ n with log:=n.log++[x],store:=F9 n.store x,queue:=n.queue.filter (fun y=>decide (y≠x)),waiting:=n.waiting.erase x }
def TH (n:Nd) (x:Cm):List Ri:=if x∈n.waiting then [⟨n.me,x.c,x.s,Pg n.store x,Ia n.store x⟩] else []
def Yz:Nat→Nd→Nd × List Ri
 | 0,n=>(n,[])
 | k+1,n=>match Yu n.known n.log.length with
  | none=>(n,[])
  | some x=>((Yz k (UL n x)).1,TH n x++(Yz k (UL n x)).2)
def QS (n:Nd) (s:Int) (x:Cm):Nd:={ n with known:=ins n.known s x }
def UC (n:Nd) (s:Int) (x:Cm):Out:=
 ⟨(Yz ((QS n s x).known.length+1) (QS n s x)).1,[],(Yz ((QS n s x).known.length+1) (QS n s x)).2⟩
def Zcg (n:Nd) (r:Jw) (l:Y7):Nd:={ n with Zi:=some { r with prom:=ins r.prom l.JI l.vs } }
def Wp (r:Jw) (l:Y7):List (Int × Unit):=ins ((Yu r.Xy l.v.slot).getD []) l.JI ()
def NF (n:Nd) (r:Jw) (l:Y7):Nd:={ n with Zi:=some { r with Xy:=ins r.Xy l.v.slot (Wp r l) } }
def YB (n:Nd) (l:Y7):Out:=
 match n.Zi with
 | none=>⟨n,[],[]⟩
 | some r=>
  if l.kind=1 then (if l.b=r.b then ⟨Zcg n r l,[],[]⟩ else ⟨n,[],[]⟩)
  else if l.v.b≠r.b then ⟨n,[],[]⟩
  else if 5<2*(Wp r l).length then UC (NF n r l) l.v.slot l.v.cm
  else ⟨NF n r l,[],[]⟩
def add (n:Nd) (x:Cm):Nd:=if x∈n.queue∨x∈n.log then n else { n with queue:=n.queue++[x] }
def notes (n:Nd) (l:Y7):Nd:=if below n.heard l.b then { n with heard:=l.b } else n
def Wq (n:Nd) (l:Y7):Out:=
 match Yu n.known l.v.slot with
 | some x=>⟨notes n l,[⟨6,n.me,l.JI,Jp,T5 l.v.slot Jp x,[]⟩],[]⟩
 | none=>⟨notes n l,[],[]⟩
def handle (n:Nd) (l:Y7):Out:=
 if l.kind=0 then YW n l else if l.kind=1∨l.kind=3 then YB n l else if l.kind=2 then asked n l
 else if l.kind=4 then ⟨add n l.v.cm,[],[]⟩ else if l.kind=5 then Wq n l else if l.kind=6 then UC n l.v.slot l.v.cm else ⟨notes n l,[],[]⟩
def Z5 (r:Jw):List (List Vt):=(List.range 5).map fun (m:Nat)=>(Yu r.prom (m:Int)).getD []
def Ph (l:List Vt):Int:=l.foldl (fun t v=>if t<v.slot then v.slot else t) (-1)
def Sy (LL:List (List Vt)) (s:Int):Cm:=if Vf s LL.flatten=0 then (Ua s LL.flatten).cm else BD
def XQ (n:Nd) (LL:List (List Vt)) (pr:List (Int × Cm)) (s:Nat):List (Int × Cm):=if Yu n.known (s:Int)=none then ins pr (s:Int) (Sy LL s) else pr
def TJ (n:Nd) (r:Jw):Jw:=
 { r with prop:=(List.range' n.log.length ((Ph (Z5 r).flatten+1).toNat-n.log.length)).foldl (XQ n (Z5 r)) r.prop,begun:=true }
def QT (n:Nd) (r:Jw) (x:Cm):Nat→Nat→Option Nat
 | 0,_=>none
 | k+1,s=>if Yu r.prop (s:Int)=some x∨Yu n.known (s:Int)=some x then none
  else if Yu r.prop (s:Int)=none∧Yu n.known (s:Int)=none then some s else QT n r x k (s+1)
def free (n:Nd) (r:Jw) (x:Cm):Option Nat:=QT n r x (40-n.log.length) n.log.length
def Wr (n:Nd) (r:Jw) (x:Cm):Jw:=match free n r x with|some s=>{ r with prop:=ins r.prop (s:Int) x }|none=>r
def JJ (n:Nd) (r:Jw) (l:List Cm):Jw:=l.foldl (Wr n) r
def NH (n:Nd) (r:Jw):List Y7:=(List.range 5).flatMap fun (m:Nat)=>if Yu r.prom (m:Int)=none then [⟨0,n.me,m,r.b,Tn,[]⟩] else []
def Pj (n:Nd) (r:Jw) (s:Nat) (x:Cm) (m:Nat):List Y7:=if Yu ((Yu r.Xy (s:Int)).getD []) (m:Int)=none then [⟨2,n.me,m,Jp,T5 s r.b x,[]⟩] else []
def WK (n:Nd) (r:Jw) (s:Nat):List Y7:=match Yu r.prop (s:Int) with
 | some x=>if Yu n.known (s:Int)=none then (List.range 5).flatMap (Pj n r s x) else []
 | none=>[]
def OK (n:Nd) (r:Jw):List Y7:=(List.range 40).flatMap (WK n r)
def UD (n:Nd) (r:Jw):Jw:=JJ n (if r.begun=true then r else TJ n r) n.queue
def QJ (n:Nd) (r:Jw):Out:=
 if below n.own.p r.b then
  (if Qc n.data n.Xe r.b≠0 then ⟨n,[],[]⟩ else
    ⟨{ n with data:=n.data++Yn (X1 r.b),ZB:=some (.own (if Ys n.own.p n.own.l r.b=0 then ⟨r.b,n.own.l⟩ else X2) (if Ys n.own.p n.own.l r.b=0 then n.own.l else []) true) },[],[]⟩)
 else if ¬5<2*r.prom.length then ⟨n,NH n r,[]⟩
 else ⟨{ n with Zi:=some (UD n r) },OK n (UD n r),[]⟩
def still (n:Nd):Nd:=match n.Zi with|some r=>if below r.b n.own.p then { n with Zi:=none } else n|none=>n
def Ta (n:Nd):List Y7:=n.queue.map fun x=>⟨4,n.me,n.own.p.n,Jp,T5 0 Jp x,[]⟩
def YC (n:Nd):Out:=match n.Zi with
 | some r=>QJ n r
 | none=>if 0<n.own.p.r∧n.own.p.n≠n.me then ⟨n,Ta n,[]⟩ else ⟨n,[],[]⟩
def UO (n:Nd):YE:=if below n.own.p n.heard then n.heard else n.own.p
def Qu (n:Nd):Nd:={ n with Xo:=(n.Xo+1)%5 }
def VA (n:Nd):List Y7:=if n.Xo≠n.me∧n.log.length<40 then [⟨5,n.me,n.Xo,UO n,T5 n.log.length Jp BD,[]⟩] else []
def Ws (n:Nd):Out:=
 if (YC (still n)).n.ZB.isSome=true then YC (still n)
 else ⟨Qu (YC (still n)).n,(YC (still n)).ls++VA (Qu (YC (still n)).n),[]⟩
def synced (n:Nd):Nd:={ n with data:=if YS n.data n.Xe then n.data else [],Xe:=if YS n.data n.Xe then (n.data.length:Int) else 0,ZB:=none }
def finish (n:Nd):Cv→Out
 | .Lb a to b vs=>⟨{ n with own:=a },[⟨1,n.me,to,b,Tn,vs⟩],[]⟩
 | .MG a to v=>⟨{ n with own:=a },[⟨3,n.me,to,Jp,v,[]⟩],[]⟩
 | .own a vs cur=>⟨{ n with own:=a,Zi:=if cur=true then n.Zi.map (fun r=>{ r with prom:=ins r.prom n.me vs }) else n.Zi },[],[]⟩
def drain:Nd→List Y7→Out
 | n,[]=>⟨{ n with inbox:=[] },[],[]⟩
 | n,l :: k=>if n.ZB.isSome=true then ⟨{ n with inbox:=l :: k },[],[]⟩
  else ⟨(drain (handle { n with inbox:=k } l).n k).n,(handle { n with inbox:=k } l).ls++(drain (handle { n with inbox:=k } l).n k).ls,(handle { n with inbox:=k } l).ts++(drain (handle { n with inbox:=k } l).n k).ts⟩
def step (n:Nd):Out:=
 if n.up=true then (match n.ZB with
  | some p=>finish (synced n) p
  | none=>if (drain n n.inbox).n.ZB.isSome=true then drain n n.inbox
   else ⟨(Ws (drain n n.inbox).n).n,(drain n n.inbox).ls++(Ws (drain n n.inbox).n).ls,(drain n n.inbox).ts++(Ws (drain n n.inbox).n).ts⟩)
 else ⟨n,[],[]⟩
def blank (i:Nat) (up:Bool) (data:List Nat) (Xe:Int) (own:QI):Nd:=⟨i,up,data,Xe,own,Jp,none,[],[],Yt,[],[],[],none,0⟩
def XE (n:Nd):YE:=⟨match n.Zi with
 | some r=>max (max n.own.p.r n.heard.r+1) (r.b.r+1)
 | none=>max n.own.p.r n.heard.r+1,n.me⟩
def Xk:Option Cv→Option Cv
 | some (.own a vs _)=>some (.own a vs false)
 | p=>p
def lead (n:Nd):Nd:=if n.up=false∨65536<(XE n).r then n else { n with Zi:=some ⟨XE n,[],false,[],[]⟩,ZB:=Xk n.ZB }
def Jq (rc:List Nat) (now:Int):Cm:=if Yx rc now=0 then ⟨Xn ((Xt rc).drop 22) 0,Xn ((Xt rc).drop 22) 1,Xn ((Xt rc).drop 22) 2,Xn ((Xt rc).drop 22) 3,Xn ((Xt rc).drop 22) 4⟩ else BD
def Ib (l:List Nat):Nat→QI→Nat→QI × Nat
 | 0,a,k=>(a,k)
 | f+1,a,k=>match Yo l a k with
  | none=>(a,k)
  | some x=>Ib l f x.1 x.2
def Wt (l:List Nat):QI × Nat:=Ib l (l.length+1) X2 0
def Qq (l:List Nat) (n k:Int):Int:=n+(if (l.length:Int)-n<k then (l.length:Int)-n else k)
def crashed (i:Nat) (n:Nd) (Zd:Int):Nd:=
 if n.up=true then (if YS n.data n.Xe∧0≤Zd then blank i false (n.data.take (Qq n.data n.Xe Zd).toNat) (Qq n.data n.Xe Zd) X2 else blank i false [] 0 X2) else n
def Ic (l:List Nat) (n:Int):List Nat:=if YS l n then l.take (Wt l).2 else []
def bz (l:List Nat) (n:Int):Int:=if YS l n then (if ((Wt l).2:Int)<n then ((Wt l).2:Int) else n) else 0
def started (i:Nat) (n:Nd):Nd:=
 if n.up=true then n else blank i true (Ic n.data n.Xe) (bz n.data n.Xe) (if YS (Ic n.data n.Xe) (bz n.data n.Xe) then (Wt (Ic n.data n.Xe)).1 else X2)
structure Ac where
 kind:Int
 node:Nat
 at':Nat
 Zd:Int
 data:List Nat
def Wd.set (w:Wd) (i:Nat) (n:Nd):Wd:={ w with nodes:=fun j=>if j=i then n else w.nodes j }
def Wd.out (w:Wd) (i:Nat) (o:Out):Wd:={ nodes:=fun j=>if j=i then o.n else w.nodes j,Zn:=w.Zn++o.ls,bad:=w.bad,told:=w.told++o.ts }
def UJ (w:Wd) (l:Y7):Wd:=if (w.nodes l.to.toNat).up=true then w.set l.to.toNat { w.nodes l.to.toNat with inbox:=(w.nodes l.to.toNat).inbox++[l] } else w
def pick (w:Wd) (at':Nat) (comes stays:Bool):Wd:=
 match w.Zn[at'%w.Zn.length]? with
 | none=>w
 | some l=>if comes=true then UJ (if stays=true then w else { w with Zn:=w.Zn.eraseIdx (at'%w.Zn.length) }) l else (if stays=true then w else { w with Zn:=w.Zn.eraseIdx (at'%w.Zn.length) })
def OL (n:Nd) (x:Cm):Nd:=if x∈n.waiting then n else { n with waiting:=n.waiting++[x] }
def TK (w:Wd) (i:Nat) (data:List Nat):Wd:=
 if (w.nodes i).up=true then
  (if Yx data (w.nodes i).log.length≠0 then { w with bad:=fun j=>if j=i then w.bad i+1 else w.bad j }
  else if Jq data (w.nodes i).log.length∈(w.nodes i).log then
   { w with told:=w.told++[⟨(w.nodes i).me,(Jq data (w.nodes i).log.length).c,(Jq data (w.nodes i).log.length).s,Pg (w.nodes i).store (Jq data (w.nodes i).log.length),Ia (w.nodes i).store (Jq data (w.nodes i).log.length)⟩] }
  else w.set i (OL (add (w.nodes i) (Jq data (w.nodes i).log.length)) (Jq data (w.nodes i).log.length)))
 else w
def act (w:Wd) (a:Ac):Wd:=
 if a.kind=1 then TK w a.node a.data
 else if a.kind=2 then w.set a.node (lead (w.nodes a.node))
 else if a.kind=3 then w.out a.node (step (w.nodes a.node))
 else if a.kind=4∨a.kind=5∨a.kind=6 then pick w a.at' (decide (a.kind≠5)) (decide (a.kind=6))
 else if a.kind=7 then w.Zn.foldl UJ { w with Zn:=[] }
 else if a.kind=8 then w.set a.node (crashed a.node (w.nodes a.node) a.Zd)
 else w.set a.node (started a.node (w.nodes a.node))
def Wu:Wd:=⟨fun i=>blank i true [] 0 X2,[],fun _=>0,[]⟩
def WL (l:List Ac):Wd:=l.foldl act Wu
set_option maxRecDepth 100000
@[go_sem] theorem Tb:dD Tryz.prog 83=some 47:=by kernel_rfl
@[go_sem] theorem MH:dD Tryz.prog 135=some 79:=by kernel_rfl
@[go_sem] theorem Ie:dD Tryz.prog 136=some 185:=by kernel_rfl
@[go_sem] theorem Gw:dD Tryz.prog 185=some 186:=by kernel_rfl
@[go_sem] theorem qH:dD Tryz.prog 162=some 161:=by kernel_rfl
@[go_sem] theorem OM:zp Tryz.prog 47=some (.agg BD.C.toArray):=by kernel_rfl
@[go_sem] theorem qI:zp Tryz.prog 79=some (.slice none 0 0):=by kernel_rfl
@[go_sem] theorem Gx:zp Tryz.prog 185=some (.map none):=by kernel_rfl
@[go_sem] theorem zZ:zp Tryz.prog 186=some (.agg #[]):=by kernel_rfl
@[go_sem] theorem ZgS:zp Tryz.prog 161=some .nilFunc:=by kernel_rfl
@[go_sem] theorem ZBr:tkp Tryz.prog 82=true:=by kernel_rfl
@[go_sem] theorem ZBs:tkm Tryz.prog 185=true:=by kernel_rfl
@[go_sem] theorem ZBt:vm Tryz.prog 1=true:=by kernel_rfl
inductive Tg where
 | world
 | nodes
 | Zn
 | told
 | node (i:Nat)
 | known (i:Nat)
 | log (i:Nat)
 | queue (i:Nat)
 | waiting (i:Nat)
 | inbox (i:Nat)
 | Zi (i:Nat)
 | prom (i:Nat)
 | prop (i:Nat)
 | Xy (i:Nat)
 | TL (i:Nat) (s:Int)
 | Xk (i:Nat)
def Tg.of:Tg→Option Nat
 | .world=>none
 | .nodes=>none
 | .Zn=>none
 | .told=>none
 | .node i=>some i
 | .known i=>some i
 | .log i=>some i
 | .queue i=>some i
 | .waiting i=>some i
 | .inbox i=>some i
 | .Zi i=>some i
 | .prom i=>some i
 | .prop i=>some i
 | .Xy i=>some i
 | .TL i _=>some i
 | .Xk i=>some i
abbrev Ow:=Nat→Option Tg
structure Im (o:Ow) (n:Nat) (h:Hp) (v:Value) (m:Nat) (cs:List Value):Prop where
 sl:Sl n h v m cs
 fits:∃p c,v=.slice p m c∧m≤c
 free:∀b,ZO v=some b→b<h.size∧o b=none
theorem Im.Zd {S:Tg→Prop} {o o':Ow} {n m:Nat} {h h':Hp} {v:Value} {cs:List Value} (s:Im o n h v m cs) (k:Kp S o h o' h'):Im o' n h' v m cs:=by
 obtain⟨⟨p,c,rfl,hl,tO⟩,⟨p',c',he,hm⟩,hf⟩:=s;simp only[Value.slice.injEq,true_and]at he;obtain⟨rfl,rfl⟩:=he;have hf':∀b,ZO (.slice p m c)=some b→b<h.size∧o b=none∧h'[b]? = h[b]? ∧ o' b=none:=fun b hb=>by
  obtain⟨h1,h2⟩:=hf b hb;obtain⟨h3,h4⟩:=k.Zd b h1 fun t ht=>by rw[h2]at ht;cases ht
  exact⟨h1,h2,h3,by rw[h4,h2]⟩
 refine⟨⟨p,c,rfl,hl,fun Yv=>?_⟩,⟨p,c,rfl,hm⟩,fun b hb=>⟨Nat.lt_of_lt_of_le (hf' b hb).1 k.size,(hf' b hb).2.2.2⟩⟩;obtain⟨b,off,rfl,YQ⟩:=tO Yv;have dx:c≠0:=by
  intro e;have:m=0:=by omega
  subst this;exact Yv (List.eq_nil_of_length_eq_zero (by simpa using hl))
 have hb:ZO (.slice (some ⟨b,off,none⟩) m c)=some b:=by simp[ZO,dx]
 refine⟨b,off,rfl,fun i hi=>?_⟩;have:=YQ i hi;unfold hc at this ⊢;rw[(hf' b hb).2.2.1];exact this
theorem Im.Ue {o:Ow} {B n m:Nat} {E:TypeId} {h:Hp} {v:Value} {cs:List Value} (s:Qx B E n h v m cs) (hd:∀b,B≤b→o b=none):Im o n h v m cs:=by
 refine⟨s.sl,?_,fun b hb=>?_⟩
 ·rcases s with⟨⟨p,rfl⟩,rfl,_⟩|⟨b,cap,sp,_,rfl,_,_,_,hm⟩
  ·exact⟨p,0,rfl,Nat.le_refl _⟩
  ·exact⟨_,cap,rfl,hm⟩
 ·exact⟨s.lt b hb,hd b (s.ZG b hb)⟩
theorem Im.nil (o:Ow) (n:Nat) (h:Hp) (p:Option Addr):Im o n h (.slice p 0 0) 0 []:=
 ⟨⟨p,0,rfl,by simp,fun Yv=>absurd rfl Yv⟩,⟨p,0,rfl,Nat.le_refl _⟩,fun b hb=>by cases p<;>simp[ZO]at hb⟩
def Wz (o:Ow) (h:Hp) (v:Value) (l:List Vt):Prop:=Im o 8 h v l.length (Zz Zo l)
def To (o:Ow) (h:Hp) (v:Value) (l:List Nat):Prop:=Im o 1 h v l.length (l.map bv)∧∀x∈l,x<256
theorem Wz.ts {o:Ow} {h:Hp} {v:Value} {l:List Vt} (s:Wz o h v l):Ts Zo 8 h v l:=⟨Im.sl s⟩
theorem To.bs {o:Ow} {h:Hp} {v:Value} {l:List Nat} (s:To o h v l):Bs h v l:=⟨s.1.sl,s.2⟩
theorem Wz.Zd {S:Tg→Prop} {o o':Ow} {h h':Hp} {v:Value} {l:List Vt} (s:Wz o h v l) (k:Kp S o h o' h'):Wz o' h' v l:=Im.Zd s k
theorem To.Zd {S:Tg→Prop} {o o':Ow} {h h':Hp} {v:Value} {l:List Nat} (s:To o h v l) (k:Kp S o h o' h'):To o' h' v l:=⟨s.1.Zd k,s.2⟩
def Y2 (l:Y7) (w:Value):List Value:=[.int .i64 l.kind,.int .i64 l.JI,.int .i64 l.to,.int .i64 l.b.r,.int .i64 l.b.n,.int .i64 l.v.slot,.int .i64 l.v.b.r,.int .i64 l.v.b.n,.int .i64 l.v.k,.int .i64 l.v.c,.int .i64 l.v.s,.int .i64 l.v.nm,.int .i64 l.v.v,w]
def MI (x:Y7 × Value):List Value:=Y2 x.1 x.2
def Ig (t:Ri):List Value:=[.int .i64 t.node,.int .i64 t.c,.int .i64 t.s,.int .i64 t.code,.int .i64 t.val]
def Zp (b:Nat):Value:=.pointer (some ⟨b,0,none⟩)
def Vj (x:Cm):Value:=.agg x.C.toArray
def QU (o:Ow) (t:Tg) (h:Hp) (v:Value) (l:List Cm):Prop:=YG o t 47 5 h v l.length (Zz Jv.C l)
def Q0 (o:Ow) (t:Tg) (h:Hp) (v:Value) (l:List Y7):Prop:=
 ∃xs:List (Y7 × Value),xs.map (·.1)=l∧YG o t 111 14 h v xs.length (Zz MI xs)∧∀x∈xs,Wz o h x.2 x.1.vs
theorem QU.Zd {S:Tg→Prop} {o o':Ow} {t:Tg} {h h':Hp} {v:Value} {l:List Cm} (s:QU o t h v l) (k:Kp S o h o' h') (hn:¬S t):QU o' t h' v l:=YG.Zd s k hn
theorem Q0.Zd {S:Tg→Prop} {o o':Ow} {t:Tg} {h h':Hp} {v:Value} {l:List Y7} (s:Q0 o t h v l) (k:Kp S o h o' h') (hn:¬S t):Q0 o' t h' v l:=by
 obtain⟨xs,h1,h2,h3⟩:=s;exact⟨xs,h1,h2.Zd k hn,fun x hx=>(h3 x hx).Zd k⟩
def QE (o:Ow) (t:Tg) (h:Hp) (b:Nat) (l:List (Int × Value)):Prop:=o b=some t∧h[b]? = some (Xs l)
theorem QE.Zd {S:Tg→Prop} {o o':Ow} {t:Tg} {h h':Hp} {b:Nat} {l:List (Int × Value)} (s:QE o t h b l) (k:Kp S o h o' h') (hn:¬S t):QE o' t h' b l:=by
 have Rs:∀u,o b=some u→¬S u:=fun u hu=>by rw[s.1]at hu;cases hu;exact hn
 exact⟨by rw[k.own s.2 Rs,s.1],k.get s.2 Rs⟩
def Q2 (o:Ow) (t:Tg) (h:Hp) (b:Nat) (x:Obj):Prop:=o b=some t∧h[b]? = some x
theorem Q2.Zd {S:Tg→Prop} {o o':Ow} {t:Tg} {h h':Hp} {b:Nat} {x:Obj} (s:Q2 o t h b x) (k:Kp S o h o' h') (hn:¬S t):Q2 o' t h' b x:=by
 have Rs:∀u,o b=some u→¬S u:=fun u hu=>by rw[s.1]at hu;cases hu;exact hn
 exact⟨by rw[k.own s.2 Rs,s.1],k.get s.2 Rs⟩
def ZR (o:Ow) (h:Hp) (b:Nat) (x:Obj):Prop:=o b=none∧h[b]? = some x
theorem ZR.Zd {S:Tg→Prop} {o o':Ow} {h h':Hp} {b:Nat} {x:Obj} (s:ZR o h b x) (k:Kp S o h o' h'):ZR o' h' b x:=(k.free s.2 s.1).symm
def Uf (o:Ow) (h:Hp) (pv:List (Int × Value)) (pr:List (Int × List Vt)):Prop:=Dq (fun x y=>x.1=y.1∧Wz o h x.2 y.2) pv pr
theorem Uf.Zd {S:Tg→Prop} {o o':Ow} {h h':Hp} {pv:List (Int × Value)} {pr:List (Int × List Vt)} (s:Uf o h pv pr) (k:Kp S o h o' h'):Uf o' h' pv pr:=by
 induction s with
 | nil=>exact .nil
 | cons a _ ih=>exact .cons ⟨a.1,a.2.Zd k⟩ ih
def Lc (l:List (Int × Unit)):List (Int × Value):=UK (fun _=>.agg #[]) l
def Q3 (o:Ow) (i:Nat) (h:Hp) (sv:List (Int × Nat)) (vt:List (Int × List (Int × Unit))):Prop:=Dq (fun x y=>x.1=y.1∧QE o (.TL i y.1) h x.2 (Lc y.2)) sv vt
theorem Q3.Zd {S:Tg→Prop} {o o':Ow} {i:Nat} {h h':Hp} {sv:List (Int × Nat)} {vt:List (Int × List (Int × Unit))} (s:Q3 o i h sv vt) (k:Kp S o h o' h') (hn:∀s,¬S (.TL i s)):Q3 o' i h' sv vt:=by
 induction s with
 | nil=>exact .nil
 | cons a _ ih=>exact .cons ⟨a.1,a.2.Zd k (hn _)⟩ ih
def tX (b:Nat):Value:=.map (some b)
structure RA where
 rb:Nat
 pb:Nat
 qb:Nat
 vb:Nat
 pv:List (Int × Value)
 sv:List (Int × Nat)
def bB (r:Jw) (a:RA):List Value:=[.int .i64 r.b.r,.int .i64 r.b.n,.map (some a.pb),.bool r.begun,.map (some a.qb),.map (some a.vb)]
structure YP (o:Ow) (i:Nat) (h:Hp) (a:RA) (r:Jw):Prop where
 ZG:Q2 o (.Zi i) h a.rb (.cells (bB r a).toArray 138)
 prom:QE o (.prom i) h a.pb a.pv
 Sz:Uf o h a.pv r.prom
 prop:QE o (.prop i) h a.qb (UK Vj r.prop)
 Xy:QE o (.Xy i) h a.vb (UK tX a.sv)
 Tc:Q3 o i h a.sv r.Xy
 keys:(a.sv.map (·.1)).Nodup
def XN (i:Nat) (t:Tg):Prop:=t=.Zi i∨t=.prom i∨t=.prop i∨t=.Xy i∨∃s,t=.TL i s
theorem YP.Zd {S:Tg→Prop} {o o':Ow} {i:Nat} {h h':Hp} {a:RA} {r:Jw} (s:YP o i h a r) (k:Kp S o h o' h') (hn:∀t,XN i t→¬S t):YP o' i h' a r:=
 ⟨s.ZG.Zd k (hn _ (.inl rfl)),s.prom.Zd k (hn _ (.inr (.inl rfl))),s.Sz.Zd k,s.prop.Zd k (hn _ (.inr (.inr (.inl rfl)))),s.Xy.Zd k (hn _ (.inr (.inr (.inr (.inl rfl))))),s.Tc.Zd k (fun s=>hn _ (.inr (.inr (.inr (.inr ⟨s,rfl⟩))))),s.keys⟩
def Pk:Option RA→Value
 | some a=>Zp a.rb
 | none=>.pointer none
def xp (o:Ow) (i:Nat) (h:Hp):Option RA→Option Jw→Prop
 | some a,some r=>YP o i h a r
 | none,none=>True
 | _,_=>False
theorem xp.Zd {S:Tg→Prop} {o o':Ow} {i:Nat} {h h':Hp} {a:Option RA} {r:Option Jw} (s:xp o i h a r) (k:Kp S o h o' h') (hn:∀t,XN i t→¬S t):xp o' i h' a r:=by
 cases a<;>cases r<;>first|exact s|exact YP.Zd s k hn
def WM (f:FuncId) (l:List Nat):Value:=.func (.func f) #[] (l.map Zp).toArray
def qJ (o:Ow) (h:Hp) (wb nb:Nat) (v:Value) (to:Int) (b:YE) (vs:List Vt):Prop:=
 ∃b3 b4 b5 b7 l w5 w,v=WM 89 [b3,b4,b5,b7]∧ZR o h b3 (.cells [Zp wb].toArray 67)∧ZR o h b4 (.cells [Zp nb].toArray 74) ∧
  ZR o h b5 (.cells (Y2 l w5).toArray 111)∧l.JI=to∧l.b=b∧ZR o h b7 (.cells [w].toArray 79)∧Wz o h w vs
def qL (o:Ow) (h:Hp) (wb nb:Nat) (v:Value) (to:Int) (x:Vt):Prop:=
 ∃b3 b4 b5 l w5,v=WM 94 [b3,b4,b5]∧ZR o h b3 (.cells [Zp wb].toArray 67)∧ZR o h b4 (.cells [Zp nb].toArray 74) ∧
  ZR o h b5 (.cells (Y2 l w5).toArray 111)∧l.JI=to∧l.v=x
theorem qJ.Zd {S:Tg→Prop} {o o':Ow} {h h':Hp} {wb nb:Nat} {v:Value} {to:Int} {b:YE} {vs:List Vt} (s:qJ o h wb nb v to b vs) (k:Kp S o h o' h'):qJ o' h' wb nb v to b vs:=by
 obtain⟨b3,b4,b5,b7,l,w5,w,h1,h2,h3,h4,h5,h6,h7,h8⟩:=s;exact⟨b3,b4,b5,b7,l,w5,w,h1,h2.Zd k,h3.Zd k,h4.Zd k,h5,h6,h7.Zd k,h8.Zd k⟩
theorem qL.Zd {S:Tg→Prop} {o o':Ow} {h h':Hp} {wb nb:Nat} {v:Value} {to:Int} {x:Vt} (s:qL o h wb nb v to x) (k:Kp S o h o' h'):qL o' h' wb nb v to x:=by
 obtain⟨b3,b4,b5,l,w5,h1,h2,h3,h4,h5,h6⟩:=s;exact⟨b3,b4,b5,l,w5,h1,h2.Zd k,h3.Zd k,h4.Zd k,h5,h6⟩
def SA (o:Ow) (h:Hp) (b:Nat) (a:QI):Prop:=∃w,ZR o h b (.cells (YR a.p w).toArray 81)∧Wz o h w a.l
theorem SA.Zd {S:Tg→Prop} {o o':Ow} {h h':Hp} {b:Nat} {a:QI} (s:SA o h b a) (k:Kp S o h o' h'):SA o' h' b a:=by
 obtain⟨w,h1,h2⟩:=s;exact⟨w,h1.Zd k,h2.Zd k⟩
def ZgT (o:Ow) (h:Hp) (i nb:Nat) (ra:Option RA) (v:Value) (a:QI) (vs:List Vt) (cur:Bool):Prop:=
 ∃b6 b4 b7 b5 w rb,v=WM 98 [b6,b4,b7,b5]∧SA o h b6 a∧ZR o h b4 (.cells [Zp nb].toArray 74)∧ZR o h b7 (.cells [w].toArray 79)∧Wz o h w vs ∧
  ZR o h b5 (.cells [Zp rb].toArray 82) ∧
  (if cur=true then ∃a,ra=some a∧a.rb=rb else ∃cs pb pv,Q2 o (.Xk i) h rb (.cells cs 138)∧cs[2]? = some (.map (some pb))∧QE o (.Xk i) h pb pv)
def UE (o:Ow) (h:Hp) (wb i nb:Nat) (ra:Option RA):Value→Option Cv→Prop
 | v,none=>v=.nilFunc
 | v,some (.Lb a to b vs)=>∃b6 b4 b9 u,v=WM 91 [b6,b4,b9]∧SA o h b6 a∧ZR o h b4 (.cells [Zp nb].toArray 74)∧ZR o h b9 (.cells [u].toArray 1)∧qJ o h wb nb u to b vs
 | v,some (.MG a to x)=>∃b6 b4 b9 u,v=WM 97 [b6,b4,b9]∧SA o h b6 a∧ZR o h b4 (.cells [Zp nb].toArray 74)∧ZR o h b9 (.cells [u].toArray 1)∧qL o h wb nb u to x
 | v,some (.own a vs cur)=>ZgT o h i nb ra v a vs cur
theorem UE.Zd {S:Tg→Prop} {o o':Ow} {h h':Hp} {wb i nb:Nat} {ra:Option RA} {v:Value} {p:Option Cv} (s:UE o h wb i nb ra v p) (k:Kp S o h o' h') (hn:¬S (.Xk i)):UE o' h' wb i nb ra v p:=by
 match p,s with
 | none,s=>exact s
 | some (.Lb a to b vs),⟨b6,b4,b9,u,h1,h2,h3,h4,h5⟩=>exact⟨b6,b4,b9,u,h1,h2.Zd k,h3.Zd k,h4.Zd k,h5.Zd k⟩
 | some (.MG a to x),⟨b6,b4,b9,u,h1,h2,h3,h4,h5⟩=>exact⟨b6,b4,b9,u,h1,h2.Zd k,h3.Zd k,h4.Zd k,h5.Zd k⟩
 | some (.own a vs cur),⟨b6,b4,b7,b5,w,rb,h1,h2,h3,h4,h5,h6,h7⟩=>
  refine⟨b6,b4,b7,b5,w,rb,h1,h2.Zd k,h3.Zd k,h4.Zd k,h5.Zd k,h6.Zd k,?_⟩
  cases cur with
  | true=>exact h7
  | false=>
   obtain⟨cs,pb,pv,g1,g2,g3⟩:=h7;exact⟨cs,pb,pv,g1.Zd k hn,g2,g3.Zd k hn⟩
structure NA where
 data:Value
 YM:Value
 Zi:Option RA
 known:Nat
 log:Value
 queue:Value
 waiting:Value
 inbox:Value
 ZB:Value
def UP (n:Nd) (a:NA):List Value:=[.int .i64 n.me,.bool n.up,a.data,.int .i64 n.Xe,.int .i64 n.own.p.r,.int .i64 n.own.p.n,a.YM,.int .i64 n.heard.r,.int .i64 n.heard.n,Pk a.Zi,.map (some a.known),a.log]++(n.store++[a.queue,a.waiting,a.inbox,a.ZB,.int .i64 n.Xo])
def Xl (n:Nd) (a:NA):Obj:=.cells (UP n a).toArray 85
structure ON (cs:List Value):Prop where
 fit:Yq XI cs=true
 num:∀i,i<32→nth cs i=some (.int .i64 (ci cs i))
 yes:∀i,32≤i→i<40→nth cs i=some (.bool (cb cs i))
structure ZV (o:Ow) (h:Hp) (wb i nb:Nat) (a:NA) (n:Nd):Prop where
 data:To o h a.data n.data
 YM:Wz o h a.YM n.own.l
 Zi:xp o i h a.Zi n.Zi
 known:QE o (.known i) h a.known (UK Vj n.known)
 log:QU o (.log i) h a.log n.log
 queue:QU o (.queue i) h a.queue n.queue
 waiting:QU o (.waiting i) h a.waiting n.waiting
 inbox:Q0 o (.inbox i) h a.inbox n.inbox
 ZB:UE o h wb i nb a.Zi a.ZB n.ZB
 store:ON n.store
structure ZM (o:Ow) (h:Hp) (wb i nb:Nat) (a:NA) (n:Nd):Prop where
 ZG:Q2 o (.node i) h nb (Xl n a)
 pt:ZV o h wb i nb a n
theorem NJ {i:Nat} {t:Tg} (h:XN i t):t.of=some i:=by
 rcases h with rfl|rfl|rfl|rfl|⟨s,rfl⟩<;>rfl
section
variable {S:Tg→Prop} {o o':Ow} {h h':Hp} {wb i nb:Nat} {a:NA} {n:Nd}
theorem ZV.Zd (s:ZV o h wb i nb a n) (k:Kp S o h o' h') (hn:∀t,S t→t.of≠some i∨t=.node i):ZV o' h' wb i nb a n:=by
 have q:∀t:Tg,t.of=some i→t ≠ .node i→¬S t:=fun t ht Yv hs=>(hn t hs).elim (fun q=>q ht) Yv;exact⟨s.data.Zd k,s.YM.Zd k,s.Zi.Zd k (fun t ht=>q t (NJ ht) (by rcases ht with rfl|rfl|rfl|rfl|⟨z,rfl⟩<;>intro e<;>cases e)),s.known.Zd k (q _ rfl (by intro e;cases e)),s.log.Zd k (q _ rfl (by intro e;cases e)),s.queue.Zd k (q _ rfl (by intro e;cases e)),s.waiting.Zd k (q _ rfl (by intro e;cases e)),s.inbox.Zd k (q _ rfl (by intro e;cases e)),s.ZB.Zd k (q _ rfl (by intro e;cases e)),s.store⟩
theorem ZM.Zd (s:ZM o h wb i nb a n) (k:Kp S o h o' h') (hn:∀t,S t→t.of≠some i):ZM o' h' wb i nb a n:=
 ⟨s.ZG.Zd k fun q=>hn _ q rfl,s.pt.Zd k fun t ht=>.inl (hn t ht)⟩
theorem ZV.put (s:ZV o h wb i nb a n) (d:UF o h) {x:Obj} (b:Q2 o (.node i) h nb x):ZM o (h.setIfInBounds nb (Xl n a)) wb i nb a n:=
 ⟨⟨b.1,Zx b.2⟩,s.Zd ((Kp.refl d (fun t=>t=.node i)).set b.1 rfl _) fun t ht=>.inr ht⟩
theorem ZV.write (s:ZV o h wb i nb a n) (d:UF o h) {x:Obj} (b:Q2 o (.node i) h nb x) {e:Option Hp} (w:e=some (h.setIfInBounds nb (Xl n a))):∃g,e=some g∧ZM o g wb i nb a n∧Kp (fun t=>t=.node i) o h o g:=
 ⟨_,w,s.put d b,(Kp.refl d (fun t=>t=.node i)).set b.1 rfl _⟩
theorem ZV.Gy (s:ZV o h wb i nb a n) (k:Kp (fun t=>t=.queue i) o h o' h') {v:Value} {l:List Cm} (hv:QU o' (.queue i) h' v l):ZV o' h' wb i nb { a with queue:=v } { n with queue:=l }:=
 ⟨s.data.Zd k,s.YM.Zd k,s.Zi.Zd k (fun t ht=>by rcases ht with rfl|rfl|rfl|rfl|⟨z,rfl⟩<;>intro e<;>cases e),s.known.Zd k (by intro e;cases e),s.log.Zd k (by intro e;cases e),hv,s.waiting.Zd k (by intro e;cases e),s.inbox.Zd k (by intro e;cases e),s.ZB.Zd k (by intro e;cases e),s.store⟩
theorem ZV.xq (s:ZV o h wb i nb a n) (k:Kp (fun t=>t=.log i) o h o' h') {v:Value} {l:List Cm} (hv:QU o' (.log i) h' v l):ZV o' h' wb i nb { a with log:=v } { n with log:=l }:=
 ⟨s.data.Zd k,s.YM.Zd k,s.Zi.Zd k (fun t ht=>by rcases ht with rfl|rfl|rfl|rfl|⟨z,rfl⟩<;>intro e<;>cases e),s.known.Zd k (by intro e;cases e),hv,s.queue.Zd k (by intro e;cases e),s.waiting.Zd k (by intro e;cases e),s.inbox.Zd k (by intro e;cases e),s.ZB.Zd k (by intro e;cases e),s.store⟩
theorem ZV.MK (s:ZV o h wb i nb a n) (k:Kp (fun t=>t=.waiting i) o h o' h') {v:Value} {l:List Cm} (hv:QU o' (.waiting i) h' v l):ZV o' h' wb i nb { a with waiting:=v } { n with waiting:=l }:=
 ⟨s.data.Zd k,s.YM.Zd k,s.Zi.Zd k (fun t ht=>by rcases ht with rfl|rfl|rfl|rfl|⟨z,rfl⟩<;>intro e<;>cases e),s.known.Zd k (by intro e;cases e),s.log.Zd k (by intro e;cases e),s.queue.Zd k (by intro e;cases e),hv,s.inbox.Zd k (by intro e;cases e),s.ZB.Zd k (by intro e;cases e),s.store⟩
theorem ZV.jw (s:ZV o h wb i nb a n) (k:Kp (fun t=>t=.inbox i) o h o' h') {v:Value} {l:List Y7} (hv:Q0 o' (.inbox i) h' v l):ZV o' h' wb i nb { a with inbox:=v } { n with inbox:=l }:=
 ⟨s.data.Zd k,s.YM.Zd k,s.Zi.Zd k (fun t ht=>by rcases ht with rfl|rfl|rfl|rfl|⟨z,rfl⟩<;>intro e<;>cases e),s.known.Zd k (by intro e;cases e),s.log.Zd k (by intro e;cases e),s.queue.Zd k (by intro e;cases e),s.waiting.Zd k (by intro e;cases e),hv,s.ZB.Zd k (by intro e;cases e),s.store⟩
theorem ZV.jx (s:ZV o h wb i nb a n) (k:Kp (fun t=>t=.known i) o h o' h') {v:Nat} {l:List (Int × Cm)} (hv:QE o' (.known i) h' v (UK Vj l)):ZV o' h' wb i nb { a with known:=v } { n with known:=l }:=
 ⟨s.data.Zd k,s.YM.Zd k,s.Zi.Zd k (fun t ht=>by rcases ht with rfl|rfl|rfl|rfl|⟨z,rfl⟩<;>intro e<;>cases e),hv,s.log.Zd k (by intro e;cases e),s.queue.Zd k (by intro e;cases e),s.waiting.Zd k (by intro e;cases e),s.inbox.Zd k (by intro e;cases e),s.ZB.Zd k (by intro e;cases e),s.store⟩
theorem ZV.QF (s:ZV o h wb i nb a n) (k:Kp (XN i) o h o' h') {ra ra':RA} {r':Jw} (hr:a.Zi=some ra) (bC:ra'.rb=ra.rb) (hv:YP o' i h' ra' r'):ZV o' h' wb i nb { a with Zi:=some ra' } { n with Zi:=some r' }:=by
 have q:∀t,t.of=some i→(¬ ∃u,t=u∧XN i u)→¬XN i t:=fun t _ h2 h3=>h2 ⟨t,rfl,h3⟩;have e:∀t:Tg,(t=.known i∨t=.log i∨t=.queue i∨t=.waiting i∨t=.inbox i∨t=.Xk i)→¬XN i t:=by
  intro t ht hr;rcases ht with rfl|rfl|rfl|rfl|rfl|rfl<;>rcases hr with e|e|e|e|⟨s,e⟩<;>cases e
 refine⟨s.data.Zd k,s.YM.Zd k,hv,s.known.Zd k (e _ (by simp)),s.log.Zd k (e _ (by simp)),s.queue.Zd k (e _ (by simp)),s.waiting.Zd k (e _ (by simp)),s.inbox.Zd k (e _ (by simp)),?_,s.store⟩;have hp:=s.ZB.Zd k (e _ (by simp));show UE o' h' wb i nb (some ra') a.ZB n.ZB;rw[hr]at hp
 match hn:n.ZB,hp with
 | none,hp=>exact hp
 | some (.Lb _ _ _ _),hp=>exact hp
 | some (.MG _ _ _),hp=>exact hp
 | some (.own _ _ cur),⟨b6,b4,b7,b5,w,rb,h1,h2,h3,h4,h5,h6,h7⟩=>
  refine⟨b6,b4,b7,b5,w,rb,h1,h2,h3,h4,h5,h6,?_⟩
  cases cur with
  | false=>exact h7
  | true=>
   obtain⟨c,hc,hcr⟩:=h7;obtain rfl:=Option.some.inj hc;exact⟨ra',rfl,bC.trans hcr⟩
end
structure WA where
 nodes:Value
 Zn:Value
 told:Value
def Xi (bad:Nat→Int) (a:WA):List Value:=[a.nodes,a.Zn,.int .i64 0,.bool false,.bool false,.bool false,.bool false,.bool false,.slice none 0 0,.int .i64 (bad 0),.int .i64 (bad 1),.int .i64 (bad 2),.int .i64 (bad 3),.int .i64 (bad 4),a.told]
structure ZI (o:Ow) (h:Hp) (wb:Nat) (nb:Nat→Nat) (a:WA) (fl:List Y7) (bad:Nat→Int) (told:List Ri):Prop where
 ZG:Q2 o .world h wb (.cells (Xi bad a).toArray 73)
 nodes:YG o .nodes 74 1 h a.nodes 5 [Zp (nb 0),Zp (nb 1),Zp (nb 2),Zp (nb 3),Zp (nb 4)]
 Zn:Q0 o .Zn h a.Zn fl
 told:YG o .told 132 5 h a.told told.length (Zz Ig told)
theorem ZI.Zd {S:Tg→Prop} {o o':Ow} {h h':Hp} {wb:Nat} {nb:Nat→Nat} {a:WA} {fl:List Y7} {bad:Nat→Int} {told:List Ri} (s:ZI o h wb nb a fl bad told) (k:Kp S o h o' h') (hn:∀t,S t→t.of≠none):ZI o' h' wb nb a fl bad told:=
 ⟨s.ZG.Zd k fun q=>hn _ q rfl,s.nodes.Zd k fun q=>hn _ q rfl,s.Zn.Zd k fun q=>hn _ q rfl,s.told.Zd k fun q=>hn _ q rfl⟩
def QL (t:Tg):Prop:=False
section
variable {S:Tg→Prop} {o o':Ow} {h h':Hp}
theorem ZE (d:UF o h) (b:Zg h.size h h'):Kp QL o h o h':=Kp.Kl d b _
theorem ZF (k:Kp QL o h o' h'):Kp S o h o' h':=k.mono fun _ q=>q.elim
theorem ZM.still {wb i nb:Nat} {a:NA} {n:Nd} (s:ZM o h wb i nb a n) (k:Kp QL o h o' h'):ZM o' h' wb i nb a n:=s.Zd k fun _ q=>q.elim
theorem ZI.still {wb:Nat} {nb:Nat→Nat} {a:WA} {fl:List Y7} {bad:Nat→Int} {told:List Ri} (s:ZI o h wb nb a fl bad told) (k:Kp QL o h o' h'):ZI o' h' wb nb a fl bad told:=s.Zd k fun _ q=>q.elim
theorem ZY (d:UF o h) (x:Obj):Kp QL o h o (h.push x):=(Kp.refl d _).push x
end
structure BE (o:Ow) (h:Hp):Prop where
 tk:Tk h
 tn:Dk 1 niv TY h
 fk:o 0=none
 fn:o 1=none
theorem Ea {S:Tg→Prop} {o o':Ow} {h h':Hp} {g:Nat} {f:Nat→Value} {l:List Nat} (t:Dk g f l h) (hf:o g=none) (k:Kp S o h o' h'):Dk g f l h'∧o' g=none:=by
 obtain⟨h1,h2⟩:=k.Zd g t.1 fun t ht=>by rw[hf]at ht;cases ht
 refine⟨⟨Nat.lt_of_lt_of_le t.1 k.size,fun i hi=>?_⟩,by rw[h2,hf]⟩;have:=t.2 i hi;unfold hc at this ⊢;rw[h1];exact this
theorem BE.Zd {S:Tg→Prop} {o o':Ow} {h h':Hp} (t:BE o h) (k:Kp S o h o' h'):BE o' h':=
 ⟨(Ea t.tk t.fk k).1,(Ea t.tn t.fn k).1,(Ea t.tk t.fk k).2,(Ea t.tn t.fn k).2⟩
theorem ON.len {cs:List Value} (s:ON cs):cs.length=40:=by
 have:=Yc s.fit;rw[this];rfl
theorem ON.one {cs:List Value} (s:ON cs):cs.all Z6=true:=VR s.fit
theorem qM (a:Option RA):Z6 (Pk a)=true:=by cases a<;>rfl
section
variable {h:Hp} {nb:Nat} {n:Nd} {a:NA}
structure Zch (h:Hp) (nb:Nat) (n:Nd) (a:NA):Prop where
 me:hc h ⟨nb,0,none⟩=some (.int .i64 n.me)
 up:hc h ⟨nb,1,none⟩=some (.bool n.up)
 tape:rd h ⟨nb,2,none⟩ 2=some [a.data,.int .i64 n.Xe]
 own:rd h ⟨nb,4,none⟩ 3=some [.int .i64 n.own.p.r,.int .i64 n.own.p.n,a.YM]
 Cw:rd h ⟨nb,4,none⟩ 2=some [.int .i64 n.own.p.r,.int .i64 n.own.p.n]
 Zpz:hc h ⟨nb,4,none⟩=some (.int .i64 n.own.p.r)
 ZBv:hc h ⟨nb,5,none⟩=some (.int .i64 n.own.p.n)
 YM:hc h ⟨nb,6,none⟩=some a.YM
 heard:rd h ⟨nb,7,none⟩ 2=some [.int .i64 n.heard.r,.int .i64 n.heard.n]
 Zci:hc h ⟨nb,7,none⟩=some (.int .i64 n.heard.r)
 Zi:hc h ⟨nb,9,none⟩=some (Pk a.Zi)
 known:hc h ⟨nb,10,none⟩=some (.map (some a.known))
 log:hc h ⟨nb,11,none⟩=some a.log
 store:rd h ⟨nb,12,none⟩ 40=some n.store
 queue:hc h ⟨nb,52,none⟩=some a.queue
 waiting:hc h ⟨nb,53,none⟩=some a.waiting
 inbox:hc h ⟨nb,54,none⟩=some a.inbox
 ZB:hc h ⟨nb,55,none⟩=some a.ZB
 Xo:hc h ⟨nb,56,none⟩=some (.int .i64 n.Xo)
theorem Gz (hs:n.store.length=40):(UP n a).length=57:=by
 unfold UP;rw[List.length_append,List.length_append,hs];rfl
theorem SC (hs:n.store.length=40) (k:Nat):nth (UP n a) (52+k)=nth [a.queue,a.waiting,a.inbox,a.ZB,.int .i64 n.Xo] k:=by
 unfold UP;rw[Yj,Yj,List.getElem?_append_right (by simp;omega),List.getElem?_append_right (by simp;omega)]
 congr 1
 simp;omega
theorem ZA (H:h[nb]? = some (Xl n a)) (hs:n.store.length=40):Zch h nb n a:=by
 have l57:=Gz (a:=a) hs;have c:∀k,hc h ⟨nb,k,none⟩=nth (UP n a) k:=fun k=>Zh H;have r:∀k m,k+m≤57→rd h ⟨nb,k,none⟩ m=some (((UP n a).drop k).take m):=fun k m hk=>Z8 H (by rw[l57];exact hk);refine⟨c 0,c 1,r 2 2 (by omega),r 4 3 (by omega),r 4 2 (by omega),c 4,c 5,c 6,r 7 2 (by omega),c 7,c 9,c 10,c 11,?_,(c 52).trans (SC hs 0),(c 53).trans (SC hs 1),(c 54).trans (SC hs 2),(c 55).trans (SC hs 3),(c 56).trans (SC hs 4)⟩;rw[r 12 40 (by omega)]
 congr 1
 unfold UP;rw[List.drop_append_of_le_length (by simp)];simp only[List.drop_succ_cons,List.drop_nil,List.drop_zero,List.nil_append];rw[←hs,List.take_left'];rfl
structure Zcj (h:Hp) (nb:Nat) (n:Nd) (a:NA):Prop where
 up:∀v,JK h ⟨nb,1,none⟩ (.bool v)=some (h.setIfInBounds nb (Xl { n with up:=v } a))
 tape:∀d s,Z6 d=true→wr h ⟨nb,2,none⟩ [d,.int .i64 s]=some (h.setIfInBounds nb (Xl { n with Xe:=s } { a with data:=d }))
 own:∀r k w,Z6 w=true→wr h ⟨nb,4,none⟩ [.int .i64 r,.int .i64 k,w]=some (h.setIfInBounds nb (Xl { n with own:=⟨⟨r,k⟩,n.own.l⟩ } { a with YM:=w }))
 heard:∀r k,wr h ⟨nb,7,none⟩ [.int .i64 r,.int .i64 k]=some (h.setIfInBounds nb (Xl { n with heard:=⟨r,k⟩ } a))
 Zi:∀b,JK h ⟨nb,9,none⟩ (Pk b)=some (h.setIfInBounds nb (Xl n { a with Zi:=b }))
 log:∀v,Z6 v=true→JK h ⟨nb,11,none⟩ v=some (h.setIfInBounds nb (Xl n { a with log:=v }))
 store:∀cs:List Value,cs.length=40→cs.all Z6=true→wr h ⟨nb,12,none⟩ cs=some (h.setIfInBounds nb (Xl { n with store:=cs } a))
 queue:∀v,Z6 v=true→JK h ⟨nb,52,none⟩ v=some (h.setIfInBounds nb (Xl n { a with queue:=v }))
 waiting:∀v,Z6 v=true→JK h ⟨nb,53,none⟩ v=some (h.setIfInBounds nb (Xl n { a with waiting:=v }))
 inbox:∀v,Z6 v=true→JK h ⟨nb,54,none⟩ v=some (h.setIfInBounds nb (Xl n { a with inbox:=v }))
 ZB:∀v,Z6 v=true→JK h ⟨nb,55,none⟩ v=some (h.setIfInBounds nb (Xl n { a with ZB:=v }))
 Xo:∀k,JK h ⟨nb,56,none⟩ (.int .i64 k)=some (h.setIfInBounds nb (Xl { n with Xo:=k } a))
theorem set_tail (pre mid l:List Value) (k:Nat) (v:Value) (hk:pre.length+mid.length=52):(pre++(mid++l)).set (52+k) v=pre++(mid++l.set k v):=by
 rw[List.set_append_right _ _ (by omega),List.set_append_right _ _ (by omega)]
 congr 3
 omega
theorem YY (H:h[nb]? = some (Xl n a)) (hs:n.store.length=40):Zcj h nb n a:=by
 have l57:=Gz (a:=a) hs;have w1:∀(k:Nat) (v:Value) (n':Nd) (a':NA),k<57→Z6 v=true→(UP n a).set k v=UP n' a'→JK h ⟨nb,k,none⟩ v=some (h.setIfInBounds nb (Xl n' a')):=fun k v n' a' hk hv he=>by
  rw[YD H,if_pos ⟨by rw[l57];exact hk,hv⟩,he];rfl
 have w:∀(k:Nat) (vs:List Value) (n':Nd) (a':NA),k+vs.length≤57→vs.all Z6=true→Yw (UP n a) k vs=UP n' a'→wr h ⟨nb,k,none⟩ vs=some (h.setIfInBounds nb (Xl n' a')):=fun k vs n' a' hk hv he=>by
  rw[ZU H,if_pos ⟨by rw[l57];exact hk,hv⟩,he];rfl
 refine⟨fun v=>w1 _ _ _ _ (by omega) rfl rfl,fun d s hd=>w _ _ _ _ (by simp) (by rw[List.all_cons,hd];rfl) rfl,fun r k v hv=>w _ _ _ _ (by simp) (by simp only[List.all_cons,hv];rfl) rfl,fun r k=>w _ _ _ _ (by simp) (by simp[Z6]) rfl,fun b=>w1 _ _ _ _ (by omega) (qM b) rfl,fun v hv=>w1 _ _ _ _ (by omega) hv rfl,fun cs hl Y9=>w _ _ _ _ (by omega) Y9 ?_,
  fun v hv=>w1 _ _ _ _ (by omega) hv ?_,fun v hv=>w1 _ _ _ _ (by omega) hv ?_,fun v hv=>w1 _ _ _ _ (by omega) hv ?_,fun v hv=>w1 _ _ _ _ (by omega) hv ?_,fun k=>w1 _ _ _ _ (by omega) rfl ?_⟩
 ·unfold UP;exact WV rfl (by rw[hl,hs])
 all_goals
  unfold UP
  first
   | exact set_tail _ _ _ 0 _ (by rw[hs];rfl)
   | exact set_tail _ _ _ 1 _ (by rw[hs];rfl)
   | exact set_tail _ _ _ 2 _ (by rw[hs];rfl)
   | exact set_tail _ _ _ 3 _ (by rw[hs];rfl)
   | exact set_tail _ _ _ 4 _ (by rw[hs];rfl)
end
section
variable {h:Hp} {wb:Nat} {bad:Nat→Int} {a:WA}
structure xr (h:Hp) (wb:Nat) (bad:Nat→Int) (a:WA):Prop where
 nodes:hc h ⟨wb,0,none⟩=some a.nodes
 Zn:hc h ⟨wb,1,none⟩=some a.Zn
 told:hc h ⟨wb,14,none⟩=some a.told
 out:rd h ⟨wb,2,none⟩ 13=some [.int .i64 0,.bool false,.bool false,.bool false,.bool false,.bool false,.slice none 0 0,.int .i64 (bad 0),.int .i64 (bad 1),.int .i64 (bad 2),.int .i64 (bad 3),.int .i64 (bad 4),a.told]
 Eb:∀v,Z6 v=true→JK h ⟨wb,1,none⟩ v=some (h.setIfInBounds wb (.cells (Xi bad { a with Zn:=v }).toArray 73))
 Zaa:∀v,Z6 v=true→JK h ⟨wb,14,none⟩ v=some (h.setIfInBounds wb (.cells (Xi bad { a with told:=v }).toArray 73))
 Zck:∀v,Z6 v=true→JK h ⟨wb,0,none⟩ v=some (h.setIfInBounds wb (.cells (Xi bad { a with nodes:=v }).toArray 73))
theorem Y3 (H:h[wb]? = some (.cells (Xi bad a).toArray 73)):xr h wb bad a:=by
 refine⟨Zh H,Zh H,Zh H,Z8 H (by simp[Xi]),fun v hv=>?_,fun v hv=>?_,fun v hv=>?_⟩
 all_goals
  rw[YD H,if_pos ⟨by simp[Xi],hv⟩];rfl
end
theorem Im.isSlice {o:Ow} {n:Nat} {h:Hp} {v:Value} {m:Nat} {cs:List Value} (s:Im o n h v m cs):∃p c,v=.slice p m c:=by
 obtain⟨p,c,h,_⟩:=s.fits;exact⟨p,c,h⟩
theorem Ur {α:Type} (enc:α→List Value) (x:α):Zz enc [x]=enc x:=by simp[Zz]
def eW (t:Tg):Prop:=t=.world∨t=.Zn
theorem U0 (T:World) (h:Hp) (o:Ow) (wb nb:Nat) (Ya:Nat→Nat) (me:Nat) (YL:WA) (fl:List Y7) (bad:Nat→Int) (told:List Ri) (to:Int) (l:Y7) (w:Value) (d:UF o h)
  (W:ZI o h wb Ya YL fl bad told) (Hy:hc h ⟨nb,0,none⟩=some (.int .i64 me)) (WC:nb<h.size) (iv:Wz o h w l.vs) (Yr:fl.length≤1000000000000) :
  Zc Tryz.prog T 73 #[Zp wb,Zp nb,.int .i64 to,.agg (Y2 l w).toArray] h fun v' h'=>∃o' Xz,Kp eW o h o' h'∧(∀b,b<h.size→o' b=o b)∧ZI o' h' wb Ya Xz (fl++[⟨l.kind,me,to,l.b,l.v,l.vs⟩]) bad told:=by
 obtain⟨p,c,hw⟩:=iv.isSlice;have Y9:Z6 w=true:=by rw[hw];rfl
 have Ec:=Za W.ZG.2;have R0:=Y3 W.ZG.2;refine Zc.Zj (args:=[_,_,_,_]) Tryz.func73 rfl rfl rfl rfl ?_;unfold Zp Y2;have e1:nb≠h.size:=by omega
 have e2:wb≠h.size:=by omega
 simp -implicitDefEqProofs only[go_sem,↓reduceIte,SN,e1,Hy];refine VS.z (h.size+1) [7,10] (.p 0 (.p 1 (.p 2 (.p 3 (.q 4 (.q 5 (.s 6 (.w 7 (.p 8 (.p 9 (.w 10 .nil))))))))))) mixed (by kernel_rfl) ?_;simp -implicitDefEqProofs only[go_sem,↓reduceIte,SN,dq,e1,e2,Hy,R0.Zn,Ec];obtain⟨h1,YN⟩:=Zy (h.push (.cells (Y2 ⟨l.kind,me,to,l.b,l.v,l.vs⟩ w).toArray 111):Hp);have s1:h1.size=h.size+1:=by rw[YN];simp
 obtain⟨h2,Uz⟩:=Zy (h1.push (.cells (Y2 ⟨l.kind,me,to,l.b,l.v,l.vs⟩ w).toArray 111):Hp);have ee:((h.push (.cells (Y2 ⟨l.kind,me,to,l.b,l.v,l.vs⟩ w).toArray 111)).push (.cells (Y2 ⟨l.kind,me,to,l.b,l.v,l.vs⟩ w).toArray 111))=h2:=by rw[Uz,YN]
 unfold Y2 at ee;simp only at ee;refine⟨Zg.push (by simp) _,?_⟩;rw[ee];have k2:Kp (fun _=>False) o h o h2:=by rw[Uz,YN];exact ((Kp.refl d _).push _).push _
 have W2:=W.Zd k2 (fun _ q=>q.elim);have lj:=iv.Zd k2;obtain⟨xs,QK,RX,az⟩:=W2.Zn;have Ex:xs.length=fl.length:=by rw[←QK,List.length_map]
 have src:Sl 14 h2 (.slice (some ⟨h.size+1,0,none⟩) 1 1) 1 (Y2 ⟨l.kind,me,to,l.b,l.v,l.vs⟩ w):=by
  rw[Uz,←s1];exact Sl.made (by simp[Y2]) 1
 refine Ja (E:=111) (n:=14) (bytes:=128) (k:=1) dE Tryz.underlying71 nW dH rfl zv RX k2.ZX src (by rw[Y2,List.all_eq_true];intro x hx;simp at hx;rcases hx with rfl|rfl|rfl|rfl|rfl|rfl|rfl|rfl|rfl|rfl|rfl|rfl|rfl|rfl<;>first|rfl|exact Y9) (by omega) (by omega) ?_;intro v' o3 h3 w3 k3 q3;have b3:=W2.ZG.Zd k3 (by intro q;cases q);have R3:=Y3 b3.2;obtain⟨p3,c3,rfl,_⟩:=w3.isSlice;have hw3:=Za b3.2;have e3:=R3.Eb (.slice p3 (xs.length+1) c3) rfl;simp -implicitDefEqProofs only[go_sem,↓reduceIte,e3];have k4:Kp eW o h o3 h3:=(k2.mono fun _ q=>q.elim).trans (k3.mono fun u q=>.inr q);have k5:=k4.set b3.1 (.inl rfl) (.cells (Xi bad { YL with Zn:=.slice p3 (xs.length+1) c3 }).toArray 73);have kk:Kp (fun u=>u=.world) o3 h3 o3 (h3.setIfInBounds wb (.cells (Xi bad { YL with Zn:=.slice p3 (xs.length+1) c3 }).toArray 73)):=(Kp.refl k3.ZX (fun u=>u=.world)).set b3.1 rfl _;refine⟨o3,{ YL with Zn:=.slice p3 (xs.length+1) c3 },k5,fun b hb=>q3 b (by have:=k2.size;omega),⟨b3.1,Zx b3.2⟩,(W2.nodes.Zd k3 (by intro q;cases q)).Zd kk (by intro q;cases q),⟨xs++[(⟨l.kind,me,to,l.b,l.v,l.vs⟩,w)],?_,?_,fun x hx=>?_⟩,(W2.told.Zd k3 (by intro q;cases q)).Zd kk (by intro q;cases q)⟩
 ·rw[List.map_append,QK];rfl
 ·have:=w3.Zd kk (by intro q;cases q);rw[Yh,Ur,List.length_append];exact this
 ·rcases List.mem_append.1 hx with hx|hx
  ·exact ((az x hx).Zd k3).Zd kk
  ·have:x=(⟨l.kind,me,to,l.b,l.v,l.vs⟩,w):=by simpa using hx
   subst this;exact (lj.Zd k3).Zd kk
@[go_sem] theorem ZpB (x:Cm):Yq [some .i64,some .i64,some .i64,some .i64,some .i64] x.C=true:=rfl
@[go_sem] theorem ZpC (x y:Cm):leq x.C y.C=decide (x=y):=by
 obtain⟨a,b,c,d,e⟩:=x;obtain⟨a',b',c',d',e'⟩:=y;unfold Jv.C Qk;rw[Bool.eq_iff_iff];simp[leq,ceq,Jv.mk.injEq]
@[go_sem] theorem OO (x:Cm):x.C.length=5:=rfl
@[go_sem] theorem qN (x:Cm):x.C.all Z6=true:=rfl
@[go_sem] theorem Zko (x:Cm):Yw [.int .i64 0,.int .i64 0,.int .i64 0,.int .i64 0,.int .i64 0] 0 x.C=x.C:=rfl
theorem Qo {h:Hp} {v:Value} {l:List Cm} (s:Ts Jv.C 5 h v l):∃p c,v=.slice p l.length c∧(l≠[]→∃b o,p=some ⟨b,o,none⟩∧b<h.size∧∀i (hi:i<l.length),rd h ⟨b,o+i*5,none⟩ 5=some (l[i]).C):=by
 obtain⟨p,c,hv,hh⟩:=s.open OO (by decide);refine⟨p,c,hv,fun Yv=>?_⟩;obtain⟨b,o,h1,h2,h3⟩:=hh Yv;exact⟨b,o,h1,h2,fun i hi=>(h3 i hi).rd (by simp[Jv.C,Qk]) rfl⟩
def Td (l:List Cm) (x:Cm):Int:=if x∈l then (l.idxOf x:Int) else -1
theorem qO {l:List Cm} {x:Cm} {i:Nat} (hi:i<l.length) (he:l[i]=x) (hn:∀j (hj:j<l.length),j<i→l[j]≠x):l.idxOf x=i:=by
 have hx:x∈l:=he▸List.getElem_mem hi;have h1:l.idxOf x<l.length:=List.idxOf_lt_length_of_mem hx;have h2:l[l.idxOf x]=x:=List.getElem_idxOf h1;rcases Nat.lt_trichotomy (l.idxOf x) i with h|h|h
 ·exact absurd h2 (hn _ h1 h)
 ·exact h
 ·have:=List.not_of_lt_findIdx (p:=(· == x)) (xs:=l) (i:=i) h
  simp[he]at this
theorem eY {l:List Cm} {x:Cm} {i:Nat} (hi:i<l.length) (he:l[i]=x) (hn:∀j (hj:j<l.length),j<i→l[j]≠x):Td l x=i:=by
 unfold Td;rw[if_pos (he▸List.getElem_mem hi),qO hi he hn]
theorem GA {l:List Cm} {x:Cm} (hn:∀j (hj:j<l.length),l[j]≠x):Td l x = -1:=by
 unfold Td;rw[if_neg fun hm=>by obtain⟨j,hj,he⟩:=List.getElem_of_mem hm;exact hn j hj he]
theorem OP (l:List Cm) (x:Cm):0≤Td l x↔x∈l:=by
 unfold Td;split
 ·rename_i h;exact⟨fun _=>h,fun _=>by omega⟩
 ·rename_i h;exact⟨fun q=>by omega,fun q=>absurd q h⟩
theorem Ih (T:World) (h:Hp) (v:Value) (l:List Cm) (x:Cm) (s:Ts Jv.C 5 h v l) (hl:l.length≤4611686018427387904) :
  Zc Tryz.prog T 45 #[v,Vj x] h fun v' h'=>v'=.int .i64 (Td l x)∧Zg h.size h h':=by
 obtain⟨p,c,rfl,YQ⟩:=Qo s;refine Zc.Zj (args:=[_,_]) Tryz.func45 rfl rfl rfl rfl ?_;unfold Vj;simp -implicitDefEqProofs only[go_sem,↓reduceIte];obtain⟨h1,YN⟩:=Zy (h.push (.cells x.C.toArray 47):Hp);have b1:Zg h.size h h1:=by rw[YN];exact Zg.push (Nat.le_refl _) _
 have x1:h1[h.size]? = some (.cells x.C.toArray 47):=by rw[YN];exact Zb
 rw[←YN];clear YN;refine VS.ZW (fun F g=>g=h1∧F 0=.slice p l.length c∧F 3=.pointer (some ⟨h.size,0,none⟩)∧F 7=.int .i64 l.length∧∃i:Nat,i≤l.length∧F 8=.int .i64 i∧∀j (hj:j<l.length),j<i→l[j]≠x)
  (fun F _=>l.length-(vi (F 8)).toNat) rfl ⟨rfl,rfl,rfl,rfl,0,by omega,rfl,fun j hj q=>by omega⟩ ?_
 rintro F g ⟨rfl,f0,f3,f7,i,hi,f8,Xg⟩;by_cases ZD:i<l.length
 ·have ZP:(i:Int)<l.length:=by omega
  obtain⟨bb,oo,rfl,Wk,FB⟩:=YQ (by intro e;rw[e]at ZD;simp at ZD);have r1:rd g ⟨bb,oo+i*5,none⟩ 5=some (l[i]).C:=by rw[JN b1 (by exact Wk)];exact FB i ZD
  have r0:rd g ⟨h.size,0,none⟩ 5=some x.C:=Zq x1 rfl;simp -implicitDefEqProofs only[go_sem,↓reduceIte,f0,f3,f7,f8,ZP];refine VS.q mixed (by kernel_rfl) ?_;simp -implicitDefEqProofs only[go_sem,↓reduceIte,f0,f3,f7,f8,ZP,r1,r0];by_cases q:l[i]=x
  ·have e:=eY ZD q Xg;rw[q];simp -implicitDefEqProofs only[go_sem,↓reduceIte,e,b1]
  ·have q':¬x=l[i]:=fun e=>q e.symm;simp -implicitDefEqProofs only[go_sem,↓reduceIte,q',f0,f3,f7,f8];refine⟨⟨rfl,f0,f3,f7,i+1,ZD,rfl,fun j hj WO=>?_⟩,?_⟩
   ·by_cases e:j=i
    ·subst e;exact q
    ·exact Xg j hj (by omega)
   ·simp only[vi,Zm,↓reduceIte,f8];omega
 ·have YK:¬(i:Int)<l.length:=by omega
  have e:=GA (l:=l) (x:=x) fun j hj=>Xg j hj (by omega);simp -implicitDefEqProofs only[go_sem,↓reduceIte,f7,f8,YK,e,b1]
theorem VB (T:World) (h:Hp) (v:Value) (l:List Cm) (x:Cm) (s:Ts Jv.C 5 h v l) (hl:l.length≤4611686018427387904) :
  Zc Tryz.prog T 47 #[v,Vj x] h fun v' h'=>v'=.bool (decide (x∈l))∧Zg h.size h h':=by
 obtain⟨p,c,rfl,YQ⟩:=Qo s;refine Zc.Zj (args:=[_,_]) Tryz.func47 rfl rfl rfl rfl ?_;unfold Vj;simp -implicitDefEqProofs only[go_sem,↓reduceIte];refine (Ih T _ _ l x (s.Z3 ((Zg.refl _ _).add _)) hl).use ?_;rintro _ h2 ⟨rfl,b2⟩;have b:Zg h.size h h2:=((Zg.refl _ _).add _).trans (b2.mono (by simp));simp -implicitDefEqProofs only[go_sem,↓reduceIte,OP,b]
theorem GB (T:World) (h:Hp) (b:Nat) (x y:Cm) (hb:h[b]? = some (.cells x.C.toArray 47)) :
  Zc Tryz.prog T 117 #[Vj y,Zp b] h fun v' h'=>v'=.bool (decide (y=x))∧Zg h.size h h':=by
 have ZD:=Za hb;refine Zc.Zj (args:=[_,_]) Tryz.func117 rfl rfl rfl rfl ?_;unfold Vj Zp;have Yv:b≠h.size:=by omega
 have r0:rd (h.push (.cells y.C.toArray 47)) ⟨h.size,0,none⟩ 5=some y.C:=Zq Zb rfl;have r1:rd (h.push (.cells y.C.toArray 47)) ⟨b,0,none⟩ 5=some x.C:=Zq (by rw[Zu ZD];exact hb) rfl;simp -implicitDefEqProofs only[go_sem,↓reduceIte,r0,r1]
def ML (b:Nat):Value:=WM 117 [b]
theorem Ii (T:World) (h:Hp) (v:Value) (l:List Cm) (b:Nat) (x:Cm) (s:Ts Jv.C 5 h v l) (hb:h[b]? = some (.cells x.C.toArray 47)) (hl:l.length≤4611686018427387904) :
  Zc Tryz.prog T 119 #[v,ML b] h fun v' h'=>v'=.int .i64 (Td l x)∧Zg h.size h h':=by
 obtain⟨p,c,rfl,YQ⟩:=Qo s;refine Zc.Zj (args:=[_,_]) Tryz.func119 rfl rfl rfl rfl ?_;have ZD:=Za hb;unfold ML WM;simp -implicitDefEqProofs only[go_sem,↓reduceIte];refine VS.ZW (fun F g=>Zg h.size h g∧F 0=.slice p l.length c∧F 1=ML b∧F 7=.int .i64 l.length∧∃i:Nat,i≤l.length∧F 8=.int .i64 i∧∀j (hj:j<l.length),j<i→l[j]≠x)
  (fun F _=>l.length-(vi (F 8)).toNat) rfl ⟨Zg.refl _ _,rfl,rfl,rfl,0,by omega,rfl,fun j hj q=>by omega⟩ ?_
 rintro F g ⟨hg,f0,f1,f7,i,hi,f8,Xg⟩;by_cases ZD:i<l.length
 ·have ZP:(i:Int)<l.length:=by omega
  obtain⟨bb,oo,rfl,Wk,FB⟩:=YQ (by intro e;rw[e]at ZD;simp at ZD);have r1:rd g ⟨bb,oo+i*5,none⟩ 5=some (l[i]).C:=by rw[JN hg (by exact Wk)];exact FB i ZD
  unfold ML WM at f1;simp only[List.map]at f1;simp -implicitDefEqProofs only[go_sem,↓reduceIte,f0,f1,f7,f8,ZP,r1];refine (GB T g b x l[i] (hg.get (by omega) hb)).use ?_;rintro _ g1 ⟨rfl,b1⟩;have O0:Zg h.size h g1:=hg.trans (b1.mono hg.size);by_cases q:l[i]=x
  ·have e:=eY ZD q Xg;simp -implicitDefEqProofs only[go_sem,↓reduceIte,q,f8,e,O0]
  ·simp -implicitDefEqProofs only[go_sem,↓reduceIte,q,f0,f1,f7,f8];refine⟨⟨O0,f0,f1,f7,i+1,ZD,rfl,fun j hj WO=>?_⟩,?_⟩
   ·by_cases e:j=i
    ·subst e;exact q
    ·exact Xg j hj (by omega)
   ·simp only[vi,Zm,↓reduceIte,f8];omega
 ·have YK:¬(i:Int)<l.length:=by omega
  have e:=GA (l:=l) (x:=x) fun j hj=>Xg j hj (by omega);simp -implicitDefEqProofs only[go_sem,↓reduceIte,f7,f8,YK,e,hg]
theorem Cx (T:World) (h:Hp) (o:Ow) (t:Tg) (v:Value) (m i:Nat) (cs:List Value) (s:YG o t 47 5 h v m cs) (d:UF o h) (Y9:cs.all Z6=true) (hi:i<m) (hm:m≤4611686018427387904) :
  Zc Tryz.prog T 120 #[v,.int .i64 i,.int .i64 ((i:Int)+1)] h fun v' h'=>YG o t 47 5 h' v' (m-1) (cs.take (i*5)++cs.drop ((i+1)*5))∧Kp (fun u=>u=t) o h o h':=by
 rcases s with⟨⟨p,rfl⟩,rfl,rfl⟩|⟨b,off,cap,pre,spare,h1,rfl,h3,h4,h5,h6,h7⟩
 ·omega
 refine Zc.Zj (args:=[_,_,_]) Tryz.func120 rfl rfl rfl rfl ?_;have e1:(i:Int)≤m:=by omega
 have e2:(i:Int)+1≤m:=by omega
 have e3:(m:Int)≤cap:=by omega
 have e4:(i:Int)≠i+1:=by omega
 have e5:((i:Int)+1).toNat=i+1:=by omega
 have e6:(0:Int)≤i+1:=by omega
 have e7:(i:Int)≤i+1:=by omega
 have e8:(i:Int)≤cap:=by omega
 have c0:cap≠0:=by omega
 simp -implicitDefEqProofs only[go_sem,↓reduceIte,e1,e2,e3,e4,e5,e6,e7,e8];refine VS.z (h.size) [6] (.p 0 (.p 1 (.p 2 (.p 3 (.p 4 (.p 5 (.w 6 (.p 7 .nil)))))))) mixed (by kernel_rfl) ?_;simp -implicitDefEqProofs only[go_sem,↓reduceIte,e1,e2,e3,e4,e5,e6,e7,e8,c0];have xd:i*5≤m*5:=Nat.mul_le_mul_right _ (by omega);have ZpD:(i+1)*5≤m*5:=Nat.mul_le_mul_right _ (by omega);have kM:m*5≤cap*5:=Nat.mul_le_mul_right _ h7;have ZG:h[b]? = some (.cells (pre++(cs.take (i*5)++(cs.drop (i*5)++spare))).toArray 47 (0,0)):=by
  rw[←List.append_assoc (List.take _ _),List.take_append_drop];exact h3
 have src:Sl 5 h (.slice (if cap=i+1 then some ⟨b,off,none⟩ else some ⟨b,off+(i+1)*5,none⟩) (m-(i+1)) (cap-(i+1))) (m-(i+1)) (cs.drop ((i+1)*5)):=by
  have:=(YG.tail (k:=i+1) (.inr ⟨b,off,cap,pre,spare,h1,rfl,h3,h4,h5,h6,h7⟩:YG o t 47 5 h (.slice (some ⟨b,off,none⟩) m cap) m cs) (by omega)).sl;rw[Option.map_some,Y1]at this;exact this
 have nl:(cs.drop ((i+1)*5)).length=(m-(i+1))*5:=by rw[List.length_drop,h5,Nat.sub_mul]
 refine Km (E:=47) (n:=5) (m:=i) (k:=m-(i+1)) (cs:=cs.take (i*5)) Ds Tryz.underlying34 Zbe nV ZG h4.symm (by rw[List.length_take];omega) src (List.all_eq_true.2 fun x hx=>List.all_eq_true.1 Y9 x (List.mem_of_mem_drop hx)) (by omega) (by rw[List.length_append,List.length_drop,h5,←Nat.sub_mul];have:(m-(i+1))*5≤(m-i)*5:=Nat.mul_le_mul_right _ (by omega);omega) ?_;obtain⟨g,hg⟩:=Zy (h.setIfInBounds b (.cells (pre++((cs.take (i*5)++cs.drop ((i+1)*5))++(cs.drop (i*5)++spare).drop ((m-(i+1))*5))).toArray 47 (0,0)):Hp);rw[←hg];have kg:Kp (fun u=>u=t) o h o g:=by rw[hg];exact (Kp.refl d (fun u=>u=t)).set h1 rfl _
 have gb:=Zx (o:=.cells (pre++((cs.take (i*5)++cs.drop ((i+1)*5))++(cs.drop (i*5)++spare).drop ((m-(i+1))*5))).toArray 47 (0,0)) h3;rw[←hg]at gb;have e9:i+(m-(i+1))=m-1:=by omega
 have f1:((m-1:Nat):Int)≤m:=by omega
 have f2:(0:Int)≤((m-1:Nat):Int):=by omega
 have f3:cap≠m-1:=by omega
 have f4:(((m-1:Nat):Int)).toNat=m-1:=by omega
 have f5:(0:Int)≤m:=by omega
 have f6:((m-1:Nat):Int)≤cap:=by omega
 rw[e9];simp -implicitDefEqProofs only[go_sem,↓reduceIte,e3,f1,f2,f3,f4,f5,f6];have tl:((cs.drop (i*5)++spare).drop ((m-(i+1))*5)).length=5+spare.length:=by
  rw[List.length_drop,List.length_append,List.length_drop,h5];have:(m-(i+1))*5+5=m*5-i*5:=by rw[←Nat.sub_mul,←Nat.succ_mul];congr 1;omega
  omega
 obtain⟨tail,ht⟩:=Zy ((cs.drop (i*5)++spare).drop ((m-(i+1))*5));rw[←ht]at gb tl;obtain⟨body,ak⟩:=Zy (cs.take (i*5)++cs.drop ((i+1)*5));have bl:body.length=(m-1)*5:=by
  rw[ak,List.length_append,List.length_take,nl,h5,Nat.min_eq_left xd,←Nat.add_mul];congr 1
 rw[←ak]at gb ⊢;have gb2:g[b]? = some (.cells ((pre++body)++(tail.take 5++tail.drop 5)).toArray 47 (0,0)):=by
  rw[List.take_append_drop,List.append_assoc];exact gb
 have e10:m-(m-1)=1:=by omega
 rw[e10];refine Ni (E:=47) (n:=5) (k:=1) Ds nV rfl rfl gb2 (by rw[List.length_append,h4,bl]) (by rw[List.length_take];omega) ?_;intro new aZ;simp -implicitDefEqProofs only[go_sem,↓reduceIte];have kk:=kg.set h1 rfl (.cells ((pre++body)++(new++tail.drop 5)).toArray 47 (0,0));refine⟨.inr ⟨b,off,cap,pre,new++tail.drop 5,h1,rfl,?_,h4,bl,?_,by omega⟩,kk⟩
 ·rw[Zx gb2,List.append_assoc]
 ·rw[List.length_append,aZ,List.length_take,List.length_drop,tl,h6];have:(cap-(m-1))*5=(cap-m)*5+5:=by rw[←Nat.succ_mul];congr 1;omega
  omega
theorem Cy (T:World) (h:Hp) (o:Ow) (t:Tg) (v:Value) (m i:Nat) (cs:List Value) (s:YG o t 111 14 h v m cs) (d:UF o h) (Y9:cs.all Z6=true) (hi:i<m) (hm:m≤4611686018427387904) :
  Zc Tryz.prog T 51 #[v,.int .i64 i,.int .i64 ((i:Int)+1)] h fun v' h'=>YG o t 111 14 h' v' (m-1) (cs.take (i*14)++cs.drop ((i+1)*14))∧Kp (fun u=>u=t) o h o h':=by
 rcases s with⟨⟨p,rfl⟩,rfl,rfl⟩|⟨b,off,cap,pre,spare,h1,rfl,h3,h4,h5,h6,h7⟩
 ·omega
 refine Zc.Zj (args:=[_,_,_]) Tryz.func51 rfl rfl rfl rfl ?_;have e1:(i:Int)≤m:=by omega
 have e2:(i:Int)+1≤m:=by omega
 have e3:(m:Int)≤cap:=by omega
 have e4:(i:Int)≠i+1:=by omega
 have e5:((i:Int)+1).toNat=i+1:=by omega
 have e6:(0:Int)≤i+1:=by omega
 have e7:(i:Int)≤i+1:=by omega
 have e8:(i:Int)≤cap:=by omega
 have c0:cap≠0:=by omega
 simp -implicitDefEqProofs only[go_sem,↓reduceIte,e1,e2,e3,e4,e5,e6,e7,e8];refine VS.z (h.size) [6] (.p 0 (.p 1 (.p 2 (.p 3 (.p 4 (.p 5 (.w 6 (.p 7 .nil)))))))) mixed (by kernel_rfl) ?_;simp -implicitDefEqProofs only[go_sem,↓reduceIte,e1,e2,e3,e4,e5,e6,e7,e8,c0];have xd:i*14≤m*14:=Nat.mul_le_mul_right _ (by omega);have ZpD:(i+1)*14≤m*14:=Nat.mul_le_mul_right _ (by omega);have kM:m*14≤cap*14:=Nat.mul_le_mul_right _ h7;have ZG:h[b]? = some (.cells (pre++(cs.take (i*14)++(cs.drop (i*14)++spare))).toArray 111 (0,0)):=by
  rw[←List.append_assoc (List.take _ _),List.take_append_drop];exact h3
 have src:Sl 14 h (.slice (if cap=i+1 then some ⟨b,off,none⟩ else some ⟨b,off+(i+1)*14,none⟩) (m-(i+1)) (cap-(i+1))) (m-(i+1)) (cs.drop ((i+1)*14)):=by
  have:=(YG.tail (k:=i+1) (.inr ⟨b,off,cap,pre,spare,h1,rfl,h3,h4,h5,h6,h7⟩:YG o t 111 14 h (.slice (some ⟨b,off,none⟩) m cap) m cs) (by omega)).sl;rw[Option.map_some,Y1]at this;exact this
 have nl:(cs.drop ((i+1)*14)).length=(m-(i+1))*14:=by rw[List.length_drop,h5,Nat.sub_mul]
 refine Km (E:=111) (n:=14) (m:=i) (k:=m-(i+1)) (cs:=cs.take (i*14)) dE Tryz.underlying71 nW dH ZG h4.symm (by rw[List.length_take];omega) src (List.all_eq_true.2 fun x hx=>List.all_eq_true.1 Y9 x (List.mem_of_mem_drop hx)) (by omega) (by rw[List.length_append,List.length_drop,h5,←Nat.sub_mul];have:(m-(i+1))*14≤(m-i)*14:=Nat.mul_le_mul_right _ (by omega);omega) ?_;obtain⟨g,hg⟩:=Zy (h.setIfInBounds b (.cells (pre++((cs.take (i*14)++cs.drop ((i+1)*14))++(cs.drop (i*14)++spare).drop ((m-(i+1))*14))).toArray 111 (0,0)):Hp);rw[←hg];have kg:Kp (fun u=>u=t) o h o g:=by rw[hg];exact (Kp.refl d (fun u=>u=t)).set h1 rfl _
 have gb:=Zx (o:=.cells (pre++((cs.take (i*14)++cs.drop ((i+1)*14))++(cs.drop (i*14)++spare).drop ((m-(i+1))*14))).toArray 111 (0,0)) h3;rw[←hg]at gb;have e9:i+(m-(i+1))=m-1:=by omega
 have f1:((m-1:Nat):Int)≤m:=by omega
 have f2:(0:Int)≤((m-1:Nat):Int):=by omega
 have f3:cap≠m-1:=by omega
 have f4:(((m-1:Nat):Int)).toNat=m-1:=by omega
 have f5:(0:Int)≤m:=by omega
 have f6:((m-1:Nat):Int)≤cap:=by omega
 rw[e9];simp -implicitDefEqProofs only[go_sem,↓reduceIte,e3,f1,f2,f3,f4,f5,f6];have tl:((cs.drop (i*14)++spare).drop ((m-(i+1))*14)).length=14+spare.length:=by
  rw[List.length_drop,List.length_append,List.length_drop,h5];have:(m-(i+1))*14+14=m*14-i*14:=by rw[←Nat.sub_mul,←Nat.succ_mul];congr 1;omega
  omega
 obtain⟨tail,ht⟩:=Zy ((cs.drop (i*14)++spare).drop ((m-(i+1))*14));rw[←ht]at gb tl;obtain⟨body,ak⟩:=Zy (cs.take (i*14)++cs.drop ((i+1)*14));have bl:body.length=(m-1)*14:=by
  rw[ak,List.length_append,List.length_take,nl,h5,Nat.min_eq_left xd,←Nat.add_mul];congr 1
 rw[←ak]at gb ⊢;have gb2:g[b]? = some (.cells ((pre++body)++(tail.take 14++tail.drop 14)).toArray 111 (0,0)):=by
  rw[List.take_append_drop,List.append_assoc];exact gb
 have e10:m-(m-1)=1:=by omega
 rw[e10];refine Ni (E:=111) (n:=14) (k:=1) dE dH rfl rfl gb2 (by rw[List.length_append,h4,bl]) (by rw[List.length_take];omega) ?_;intro new aZ;simp -implicitDefEqProofs only[go_sem,↓reduceIte];have kk:=kg.set h1 rfl (.cells ((pre++body)++(new++tail.drop 14)).toArray 111 (0,0));refine⟨.inr ⟨b,off,cap,pre,new++tail.drop 14,h1,rfl,?_,h4,bl,?_,by omega⟩,kk⟩
 ·rw[Zx gb2,List.append_assoc]
 ·rw[List.length_append,aZ,List.length_take,List.length_drop,tl,h6];have:(cap-(m-1))*14=(cap-m)*14+14:=by rw[←Nat.succ_mul];congr 1;omega
  omega
section
variable {α:Type} {enc:α→List Value} {n:Nat}
theorem U7 (Qs:∀x,(enc x).length=n) (l:List α) (i:Nat) (hi:i≤l.length):(Zz enc l).take (i*n)=Zz enc (l.take i):=by
 have h1:(Zz enc (l.take i)).length=i*n:=by rw[X3 Qs,List.length_take,Nat.min_eq_left hi]
 have h2:Zz enc l=Zz enc (l.take i)++Zz enc (l.drop i):=by rw[←Yh,List.take_append_drop]
 rw[h2,←h1,List.take_left]
theorem Te (Qs:∀x,(enc x).length=n) (l:List α) (i:Nat) (hi:i≤l.length):(Zz enc l).drop (i*n)=Zz enc (l.drop i):=by
 have h1:(Zz enc (l.take i)).length=i*n:=by rw[X3 Qs,List.length_take,Nat.min_eq_left hi]
 have h2:Zz enc l=Zz enc (l.take i)++Zz enc (l.drop i):=by rw[←Yh,List.take_append_drop]
 rw[h2,←h1,List.drop_left]
theorem qP (Qs:∀x,(enc x).length=n) (l:List α) (i:Nat) (hi:i<l.length) (y:α):Zz enc (l.set i y)=(Zz enc l).take (i*n)++(enc y++(Zz enc l).drop ((i+1)*n)):=by
 rw[List.set_eq_take_append_cons_drop,if_pos hi,Yh,U7 Qs _ _ (by omega),Te Qs _ _ (by omega)];rfl
end
theorem xt (l:List Cm):(Zz Jv.C l).all Z6=true:=by
 induction l with
 | nil=>rfl
 | cons x l ih=>rw[Zz,List.all_append,ih];rfl
theorem VC {l:List Cm} {j:Nat} (hj:j<l.length) (q:Cm→Bool):(l.take (j+1)).filter q=(l.take j).filter q++if q l[j]=true then [l[j]] else []:=by
 rw[Ym l j hj,List.filter_append]
 congr 1
 cases h:q l[j]<;>simp[h]
theorem Cz {l:List Cm} {x:Cm} {i:Nat} (h:Td l x=i):i<l.length∧(l.take i).filter (fun y=>decide (y≠x))=l.take i∧l[i]? = some x:=by
 unfold Td at h;split at h
 ·rename_i hm;have hi:l.idxOf x=i:=by omega
  have h1:l.idxOf x<l.length:=List.idxOf_lt_length_of_mem hm;refine⟨by omega,?_,?_⟩
  ·rw[List.filter_eq_self];intro y hy;obtain⟨k,hk,rfl⟩:=List.getElem_of_mem hy;rw[List.length_take]at hk;rw[List.getElem_take];have:=List.not_of_lt_findIdx (p:=(· == x)) (xs:=l) (i:=k) (show k<List.findIdx (· == x) l by rw[show List.findIdx (· == x) l=l.idxOf x from rfl];omega)
   simpa using this
  ·rw[←hi,List.getElem?_eq_getElem h1,List.getElem_idxOf h1]
 ·omega
theorem CA (T:World) (h:Hp) (o:Ow) (t:Tg) (v:Value) (l:List Cm) (bx:Nat) (x:Cm) (s:QU o t h v l) (d:UF o h) (hb:ZR o h bx (.cells x.C.toArray 47)) (hl:l.length≤4611686018427387904) :
  Zc Tryz.prog T 118 #[v,ML bx] h fun v' h'=>QU o t h' v' (l.filter fun y=>decide (y≠x))∧Kp (fun u=>u=t) o h o h':=by
 have ts:Ts Jv.C 5 h v l:=⟨s.sl⟩
 obtain⟨p,c,rfl,YQ⟩:=Qo ts;refine Zc.Zj (args:=[_,_]) Tryz.func118 rfl rfl rfl rfl ?_;unfold ML WM;simp -implicitDefEqProofs only[go_sem,↓reduceIte];refine (Ii T h _ l bx x ts hb.2 hl).use ?_;rintro _ h1 ⟨rfl,b1⟩;have k1:Kp (fun u=>u=t) o h o h1:=Kp.Kl d b1 _;by_cases hm:x∈l
 case neg=>
  have e:Td l x = -1:=by unfold Td;rw[if_neg hm]
  have e2:(l.filter fun y=>decide (y≠x))=l:=by
   rw[List.filter_eq_self];intro y hy;simpa using fun q=>hm (by rw[←q];exact hy)
  simp -implicitDefEqProofs only[go_sem,↓reduceIte,e,e2];exact⟨QU.Zd (S:=fun _=>False) s (Kp.Kl d b1 _) id,k1⟩
 obtain⟨i0,T3⟩:∃i:Nat,Td l x=i:=⟨l.idxOf x,by unfold Td;rw[if_pos hm]⟩
 obtain⟨hi,hf,hx⟩:=Cz T3;rcases s with⟨⟨q,h1'⟩,h2',h3'⟩|⟨b,off,cap,pre,spare,o1,hv,o3,o4,o5,o6,o7⟩
 ·omega
 simp only[Value.slice.injEq]at hv;obtain⟨rfl,_,rfl⟩:=hv;have i1:¬((i0:Nat):Int) = -1:=by omega
 simp -implicitDefEqProofs only[go_sem,↓reduceIte,T3,i1];obtain⟨q,hq⟩:∃q:Cm→Bool,q=fun y=>decide ¬y=x:=⟨_,rfl⟩
 have hq':(fun y=>decide (y≠x))=q:=by rw[hq]
 have hqx:∀y,q y=decide ¬y=x:=fun y=>by rw[hq]
 rw[hq']at hf;rw[←hq];have BA:l[i0]=x:=by rw[List.getElem?_eq_getElem hi]at hx;exact Option.some.inj hx
 have sl:l.length≤c:=o7;have el:∀L:List Cm,(Zz Jv.C L).length=L.length*5:=fun L=>X3 (n:=5) OO L;refine VS.ZW (fun F g=>F 0=.slice (some ⟨b,off,none⟩) l.length c∧F 1=ML bx∧Kp (fun u=>u=t) o h o g∧∃(i j:Nat) (L:List Cm),F 5=.int .i64 i∧F 6=.int .i64 j∧j≤l.length∧i<j∧L.length=l.length∧L.take i=(l.take j).filter q∧L.drop j=l.drop j∧i=((l.take j).filter q).length ∧
   g[b]? = some (.cells (pre++(Zz Jv.C L++spare)).toArray 47 (0,0)))
  (fun F _=>l.length-(vi (F 6)).toNat) rfl ⟨rfl,rfl,k1,i0,i0+1,l,rfl,?_,by omega,by omega,rfl,?_,rfl,?_,b1.get (Za o3) o3⟩ ?_
 ·show Value.int .i64 _=_
  congr 1
 ·rw[VC hi,hf,BA,hqx,if_neg (by simp),List.append_nil]
 ·rw[VC hi,hf,BA,hqx,if_neg (by simp),List.append_nil,List.length_take];omega
 rintro F g ⟨f0,f1,kg,i,j,L,f5,f6,hj,kK,hL,zL,hLj,EH,gb⟩;unfold ML WM at f1;simp only[List.map]at f1;have gl:=Za gb;by_cases ZD:j<l.length
 ·have ZP:(j:Int)<l.length:=by omega
  have hjL:L[j]? = l[j]?:=by
   have:=congrArg (fun z=>z[0]?) hLj
   simpa using this
  have BO:j<L.length:=by omega
  have hjE:L[j]=l[j]:=by
   rw[List.getElem?_eq_getElem BO,List.getElem?_eq_getElem ZD]at hjL;exact Option.some.inj hjL
  have ow:YG o t 47 5 g (.slice (some ⟨b,off,none⟩) L.length c) L.length (Zz Jv.C L):=.inr ⟨b,off,c,pre,spare,o1,rfl,gb,o4,el L,by rw[hL];exact o6,by omega⟩;obtain⟨p2,c2,pS,HS⟩:=Qo (⟨ow.sl⟩:Ts Jv.C 5 g _ L);obtain⟨bb,oo,nK,_,hr⟩:=HS (by intro e;rw[e]at BO;simp at BO);subst nK;simp only[Value.slice.injEq,Option.some.injEq,Addr.mk.injEq]at pS;obtain⟨⟨rfl,rfl,_⟩,_,rfl⟩:=pS;have r1:rd g ⟨b,off+j*5,none⟩ 5=some (l[j]).C:=by rw[hr j BO,hjE]
  simp -implicitDefEqProofs only[go_sem,↓reduceIte,f0,f1,f5,f6,ZP,r1];have bxg:=hb.Zd kg;have bxl:bx≠g.size:=by have:=Za bxg.2;omega
  refine (GB T _ bx x l[j] (by rw[Zu (Za bxg.2)];exact bxg.2)).use ?_;rintro _ g1 ⟨rfl,vy⟩;have bp:Zg g.size g g1:=(Zg.push (Nat.le_refl _) _).trans (vy.mono (by simp));have kg1:Kp (fun u=>u=t) o h o g1:=kg.Z3 bp;have gb1:=bp.get gl gb;have ZpH:g1[g.size]? = some (.cells (l[j]).C.toArray 47):=vy.get (by simp) Zb;have yr:rd g1 ⟨g.size,0,none⟩ 5=some (l[j]).C:=Zq ZpH rfl;have fs:=VC ZD q;have hd1:∀L':List Cm,L'.drop j=l.drop j→L'.drop (j+1)=l.drop (j+1):=fun L' h=>by
   rw[←List.drop_drop,←List.drop_drop,h]
  by_cases hxj:l[j]=x
  ·have fs':(l.take (j+1)).filter q=(l.take j).filter q:=by rw[fs,hqx,if_neg (by simp[hxj]),List.append_nil]
   simp -implicitDefEqProofs only[go_sem,↓reduceIte,hxj,f0,f1,f5,f6];refine⟨⟨f0,f1,kg1,i,j+1,L,f5,rfl,ZD,by omega,hL,by rw[fs'];exact zL,hd1 L hLj,by rw[fs'];exact EH,gb1⟩,?_⟩;simp only[vi,Zm,↓reduceIte,f6];omega
  ·have fs':(l.take (j+1)).filter q=(l.take j).filter q++[l[j]]:=by rw[fs,hqx,if_pos (by simp[hxj])]
   have i0':(0:Int)≤i:=by omega
   have i1':(i:Int)<l.length:=by omega
   have hiL:i<L.length:=by omega
   have w1:=ZU gb1 (off+i*5) (l[j]).C;have eL:Yw (pre++(Zz Jv.C L++spare)) (off+i*5) (l[j]).C=pre++(Zz Jv.C (L.set i l[j])++spare):=by
    have e1:Zz Jv.C L=(Zz Jv.C L).take (i*5)++(((Zz Jv.C L).drop (i*5)).take 5++(Zz Jv.C L).drop ((i+1)*5)):=by
     have:(Zz Jv.C L).drop ((i+1)*5)=((Zz Jv.C L).drop (i*5)).drop 5:=by rw[List.drop_drop];congr 1;omega
     rw[this,List.take_append_drop,List.take_append_drop]
    have hle:(i+1)*5≤(Zz Jv.C L).length:=by rw[el];omega
    rw[qP OO L i hiL]
    conv=>lhs;rw[e1]
    have e2:pre++(((Zz Jv.C L).take (i*5)++(((Zz Jv.C L).drop (i*5)).take 5++(Zz Jv.C L).drop ((i+1)*5)))++spare)=(pre++(Zz Jv.C L).take (i*5))++(((Zz Jv.C L).drop (i*5)).take 5++((Zz Jv.C L).drop ((i+1)*5)++spare)):=by simp only[List.append_assoc]
    rw[e2,WV (by rw[List.length_append,o4,List.length_take];omega) (by rw[List.length_take,List.length_drop,OO];omega)];simp only[List.append_assoc]
   rw[eL,if_pos ⟨by rw[List.length_append,List.length_append,o4,el,OO];omega,qN _⟩]at w1;simp -implicitDefEqProofs only[go_sem,↓reduceIte,hxj,f0,f1,f5,f6,yr,i0',i1',w1];refine⟨⟨f0,f1,kg1.set o1 rfl _,i+1,j+1,L.set i l[j],rfl,rfl,ZD,by omega,by rw[List.length_set,hL],?_,?_,?_,Zx gb1⟩,?_⟩
   ·rw[Ym _ i (by rw[List.length_set];exact hiL),List.take_set_of_le (Nat.le_refl _),List.getElem_set_self,fs',←zL]
   ·refine hd1 _ ?_;rw[←hLj,List.drop_set_of_lt (by omega)]
   ·rw[fs',List.length_append,←EH];rfl
   ·simp only[vi,Zm,↓reduceIte,f6];omega
 ·have YK:¬(j:Int)<l.length:=by omega
  obtain rfl:j=l.length:=by omega
  rw[List.take_length]at zL EH;have hiL:i≤L.length:=by omega
  have gb2:g[b]? = some (.cells ((pre++Zz Jv.C (L.take i))++(Zz Jv.C (L.drop i)++spare)).toArray 47 (0,0)):=by
   rw[←U7 OO L i hiL,←Te OO L i hiL];have:(pre++(Zz Jv.C L).take (i*5))++((Zz Jv.C L).drop (i*5)++spare)=pre++(Zz Jv.C L++spare):=by
    rw[List.append_assoc,←List.append_assoc (List.take _ _),List.take_append_drop]
   rw[this];exact gb
  have tl:(Zz Jv.C (L.take i)).length=i*5:=by rw[el,List.length_take,Nat.min_eq_left hiL]
  simp -implicitDefEqProofs only[go_sem,↓reduceIte,f0,f5,f6,YK];refine Ni (E:=47) (n:=5) (k:=l.length-i) Ds nV rfl rfl gb2 (by rw[List.length_append,o4,tl]) (by rw[el,List.length_drop,hL]) ?_;intro new aZ;have i2:(i:Int)≤c:=by omega
  simp -implicitDefEqProofs only[go_sem,↓reduceIte,i2,f0,f5];have e:(Zz Jv.C (L.take i))=Zz Jv.C (l.filter q):=by rw[zL]
  refine⟨.inr ⟨b,off,c,pre,new++spare,o1,by rw[←EH],?_,o4,el _,?_,by omega⟩,kg.set o1 rfl _⟩
  ·rw[Zx gb2,←e,List.append_assoc]
  ·rw[List.length_append,aZ,el,List.length_drop,o6,hL,←EH,←Nat.add_mul];congr 1;omega
@[go_sem] theorem ZpI (x:Vt):Yq [some .i64,some .i64,some .i64,some .i64,some .i64,some .i64,some .i64,some .i64] (Zo x)=true:=rfl
@[go_sem] theorem ZpJ (x y:Vt):leq (Zo x) (Zo y)=decide (x=y):=by
 obtain⟨a,⟨b,c⟩,d,e,f,g,k⟩:=x;obtain⟨a',⟨b',c'⟩,d',e',f',g',k'⟩:=y;unfold Zo;rw[Bool.eq_iff_iff];simp[leq,ceq,Vt.mk.injEq,and_assoc]
@[go_sem] theorem Zks (x:YE):Yq [some .i64,some .i64] (Jn x)=true:=rfl
@[go_sem] theorem Zkt (x y:YE):leq (Jn x) (Jn y)=decide (x=y):=by
 obtain⟨a,b⟩:=x;obtain⟨a',b'⟩:=y;unfold Jn;rw[Bool.eq_iff_iff];simp[leq,ceq,YE.mk.injEq]
@[go_sem] theorem ZgV (x:Vt):(Zo x).length=8:=rfl
theorem Ij {h:Hp} {v:Value} {l:List Vt} (s:Ts Zo 8 h v l):∃p c,v=.slice p l.length c∧(l≠[]→∃b o,p=some ⟨b,o,none⟩∧b<h.size∧∀i (hi:i<l.length),rd h ⟨b,o+i*8,none⟩ 8=some (Zo l[i])):=by
 obtain⟨p,c,hv,hh⟩:=s.open ZgV (by decide);refine⟨p,c,hv,fun Yv=>?_⟩;obtain⟨b,o,h1,h2,h3⟩:=hh Yv;exact⟨b,o,h1,h2,fun i hi=>(h3 i hi).rd (by simp[Zo]) rfl⟩
theorem bD (T:World) (h:Hp) (v:Value) (l:List Vt) (x:Vt) (s:Ts Zo 8 h v l) (hl:l.length≤4611686018427387904) :
  Zc Tryz.prog T 121 #[v,.agg (Zo x).toArray] h fun v' h'=>(∃i:Int,v'=.int .i64 i∧(0≤i↔x∈l))∧Zg h.size h h':=by
 obtain⟨p,c,rfl,YQ⟩:=Ij s;refine Zc.Zj (args:=[_,_]) Tryz.func121 rfl rfl rfl rfl ?_;simp -implicitDefEqProofs only[go_sem,↓reduceIte];obtain⟨h1,YN⟩:=Zy (h.push (.cells (Zo x).toArray 109):Hp);have b1:Zg h.size h h1:=by rw[YN];exact Zg.push (Nat.le_refl _) _
 have x1:h1[h.size]? = some (.cells (Zo x).toArray 109):=by rw[YN];exact Zb
 rw[←YN];clear YN;refine VS.ZW (fun F g=>g=h1∧F 0=.slice p l.length c∧F 3=.pointer (some ⟨h.size,0,none⟩)∧F 7=.int .i64 l.length∧∃i:Nat,i≤l.length∧F 8=.int .i64 i∧∀j (hj:j<l.length),j<i→l[j]≠x)
  (fun F _=>l.length-(vi (F 8)).toNat) rfl ⟨rfl,rfl,rfl,rfl,0,by omega,rfl,fun j hj q=>by omega⟩ ?_
 rintro F g ⟨rfl,f0,f3,f7,i,hi,f8,Xg⟩;by_cases ZD:i<l.length
 ·have ZP:(i:Int)<l.length:=by omega
  obtain⟨bb,oo,rfl,Wk,FB⟩:=YQ (by intro e;rw[e]at ZD;simp at ZD);have r1:rd g ⟨bb,oo+i*8,none⟩ 8=some (Zo l[i]):=by rw[JN b1 (by exact Wk)];exact FB i ZD
  have r0:rd g ⟨h.size,0,none⟩ 8=some (Zo x):=Zq x1 rfl;simp -implicitDefEqProofs only[go_sem,↓reduceIte,f0,f3,f7,f8,ZP];refine VS.q mixed (by kernel_rfl) ?_;simp -implicitDefEqProofs only[go_sem,↓reduceIte,f0,f3,f7,f8,ZP,r1,r0];by_cases q:l[i]=x
  ·rw[q];simp -implicitDefEqProofs only[go_sem,↓reduceIte,b1];exact⟨_,rfl,fun _=>q▸List.getElem_mem ZD,fun _=>by omega⟩
  ·have q':¬x=l[i]:=fun e=>q e.symm;simp -implicitDefEqProofs only[go_sem,↓reduceIte,q',f0,f3,f7,f8];refine⟨⟨rfl,f0,f3,f7,i+1,ZD,rfl,fun j hj WO=>?_⟩,?_⟩
   ·by_cases e:j=i
    ·subst e;exact q
    ·exact Xg j hj (by omega)
   ·simp only[vi,Zm,↓reduceIte,f8];omega
 ·have YK:¬(i:Int)<l.length:=by omega
  have hx:x ∉ l:=fun hm=>by obtain⟨j,hj,he⟩:=List.getElem_of_mem hm;exact Xg j hj (by omega) he
  simp -implicitDefEqProofs only[go_sem,↓reduceIte,f7,f8,YK,b1,hx];exact⟨-1,rfl,fun q=>by omega,fun q=>q.elim⟩
theorem Hz (T:World) (h:Hp) (v:Value) (l:List Vt) (x:Vt) (s:Ts Zo 8 h v l) (hl:l.length≤4611686018427387904) :
  Zc Tryz.prog T 95 #[v,.agg (Zo x).toArray] h fun v' h'=>v'=.bool (decide (x∈l))∧Zg h.size h h':=by
 obtain⟨p,c,rfl,YQ⟩:=Ij s;refine Zc.Zj (args:=[_,_]) Tryz.func95 rfl rfl rfl rfl ?_;simp -implicitDefEqProofs only[go_sem,↓reduceIte];refine (bD T _ _ l x (s.Z3 ((Zg.refl _ _).add _)) hl).use ?_;rintro _ h2 ⟨⟨i,rfl,hi⟩,b2⟩;have b:Zg h.size h h2:=((Zg.refl _ _).add _).trans (b2.mono (by simp));simp -implicitDefEqProofs only[go_sem,↓reduceIte,hi,b]
theorem OQ (T:World) (h:Hp) (a b:YE):Zc Tryz.prog T 71 #[.agg (Jn a).toArray,.agg (Jn b).toArray] h fun v' h'=>v'=.bool (decide (below b a))∧Zg h.size h h':=by
 refine Zc.Zj (args:=[_,_]) Tryz.func71 rfl rfl rfl rfl ?_;unfold Jn;by_cases q1:b.r<a.r
 ·have e:below b a:=.inl q1;simp -implicitDefEqProofs only[go_sem,↓reduceIte,q1,e]
  (repeat' (first|exact Zg.refl _ _|assumption|refine Zg.add ?_ _|refine Zg.Zk ?_ (by first|omega|(simp;omega)) _|refine Zg.trans (by assumption) ?_))
 ·by_cases q2:a.r=b.r
  ·by_cases q3:b.n<a.n
   ·have e:below b a:=.inr ⟨q2.symm,q3⟩;simp -implicitDefEqProofs only[go_sem,↓reduceIte,q1,q2,q3,e]
    (repeat' (first|exact Zg.refl _ _|assumption|refine Zg.add ?_ _|refine Zg.Zk ?_ (by first|omega|(simp;omega)) _|refine Zg.trans (by assumption) ?_))
   ·have e:¬below b a:=fun h=>by rcases h with h|⟨_,h⟩<;>omega
    simp -implicitDefEqProofs only[go_sem,↓reduceIte,q1,q2,q3,e]
    (repeat' (first|exact Zg.refl _ _|assumption|refine Zg.add ?_ _|refine Zg.Zk ?_ (by first|omega|(simp;omega)) _|refine Zg.trans (by assumption) ?_))
  ·have e:¬below b a:=fun h=>by rcases h with h|⟨h,_⟩<;>omega
   simp -implicitDefEqProofs only[go_sem,↓reduceIte,q1,q2,e]
   (repeat' (first|exact Zg.refl _ _|assumption|refine Zg.add ?_ _|refine Zg.Zk ?_ (by first|omega|(simp;omega)) _|refine Zg.trans (by assumption) ?_))
theorem LA (T:World) (h:Hp) (n:Nat) (hn:n≤1000000000000):Zc Tryz.prog T 92 #[.int .i64 n] h fun v' h'=>v'=.bool (decide (5<2*n))∧h'=h:=by
 refine Zc.Zj (args:=[_]) Tryz.func92 rfl rfl rfl rfl ?_;have e:((5:Int)<2*(n:Int))=(5<2*n):=by apply propext;omega
 simp -implicitDefEqProofs only[go_sem,↓reduceIte,e]
theorem QU.ts {o:Ow} {t:Tg} {h:Hp} {v:Value} {l:List Cm} (s:QU o t h v l):Ts Jv.C 5 h v l:=⟨YG.sl s⟩
theorem NK {T:World} {K:Value→Hp→Prop} {ty:TypeId} {o:Ow} {t:Tg} {h:Hp} {v:Value} {l:List Cm} {x:Cm} {bx:Nat} {cb:Array Bool} (s:QU o t h v l) (d:UF o h) (hb:h[bx]? = some (.cells x.C.toArray 47)) (hr:l.length≤1000000000000)
  (H:∀p c o' h',QU o' t h' (.slice p (l.length+1) c) (l++[x])→Kp (fun u=>u=t) o h o' h'→K (.slice p (l.length+1) c) h') :
  T6 Tryz.prog T .append #[34,34] ty cb [v,.slice (some ⟨bx,0,none⟩) 1 1] K h:=by
 have src:Sl 5 h (.slice (some ⟨bx,0,none⟩) 1 1) 1 x.C:=⟨_,1,rfl,rfl,fun _=>⟨bx,0,rfl,fun i hi=>by
  rw[Zh hb,Yj,Nat.zero_add];exact List.getElem?_eq_getElem hi⟩⟩
 refine Ja (E:=47) (n:=5) (bytes:=40) (k:=1) Ds Tryz.underlying34 Zbe nV rfl Zfg s d src (qN x) (by omega) (by omega) ?_;intro v' o' h' w k _;obtain⟨p,c,rfl,_⟩:=w.isSlice;refine H p c o' h' ?_ k;unfold QU;rw[Yh,Ur,List.length_append];exact w
def Zcm (i:Nat) (t:Tg):Prop:=t=.node i∨t=.queue i
theorem qQ (T:World) (h:Hp) (o:Ow) (wb i nb:Nat) (a:NA) (n:Nd) (x:Cm) (d:UF o h) (N:ZM o h wb i nb a n) (hq:n.queue.length≤1000000000000) (hl:n.log.length≤1000000000000) :
  Zc Tryz.prog T 46 #[Zp nb,Vj x] h fun v' h'=>∃o' a',Kp (Zcm i) o h o' h'∧ZM o' h' wb i nb a' (add n x):=by
 have WC:=Za N.ZG.2;have R:=ZA N.ZG.2 N.pt.store.len;refine Zc.Zj (args:=[_,_]) Tryz.func46 rfl rfl rfl rfl ?_;unfold Zp Vj;have e1:nb≠h.size:=by omega
 simp -implicitDefEqProofs only[go_sem,↓reduceIte];obtain⟨h1,YN⟩:=Zy (h.push (.cells x.C.toArray 47):Hp);have k1:Kp QL o h o h1:=by rw[YN];exact ZY d _
 have x1:ZR o h1 h.size (.cells x.C.toArray 47):=⟨d _ (Nat.le_refl _),by rw[YN];exact Zb⟩
 rw[←YN];have N1:=N.still k1;clear YN;have R1:=ZA N1.ZG.2 N1.pt.store.len;have JU:=Za N1.ZG.2;have hs1:=Za x1.2;have r1:rd h1 ⟨h.size,0,none⟩ 5=some x.C:=Zq x1.2 rfl;refine VS.z (h1.size) [13] (.p 0 (.p 1 (.p 2 (.q 3 (.q 4 (.s 5 (.p 6 (.p 7 (.p 8 (.p 9 (.p 10 (.q 11 (.q 12 (.w 13 (.p 14 (.p 15 .nil)))))))))))))))) mixed (by kernel_rfl) ?_;simp -implicitDefEqProofs only[go_sem,↓reduceIte,R1.queue,JU,r1,hs1];refine (VB T h1 _ n.queue x N1.pt.queue.ts (by omega)).use ?_;rintro _ h2 ⟨rfl,b2⟩;by_cases q1:x∈n.queue
 ·have e:add n x=n:=by unfold add;rw[if_pos (.inl q1)]
  simp -implicitDefEqProofs only[go_sem,↓reduceIte,q1,b2,e];exact⟨o,a,(ZF k1).Z3 b2,N1.still (ZE k1.ZX b2)⟩
 simp -implicitDefEqProofs only[go_sem,↓reduceIte,q1,b2,R1.log,JU,r1,hs1];have k2:=ZE k1.ZX b2;refine (VB T h2 _ n.log x (N1.still k2).pt.log.ts (by omega)).use ?_;rintro _ h3 ⟨rfl,b3⟩;have b13:Zg h1.size h1 h3:=b2.trans (b3.mono b2.size);have k3:=ZE k1.ZX b13;by_cases q2:x∈n.log
 ·have e:add n x=n:=by unfold add;rw[if_pos (.inr q2)]
  simp -implicitDefEqProofs only[go_sem,↓reduceIte,q2,b13,e];exact⟨o,a,(ZF k1).Z3 b13,N1.still k3⟩
 have e:add n x = { n with queue:=n.queue++[x] }:=by unfold add;rw[if_neg (fun q=>q.elim q1 q2)]
 simp -implicitDefEqProofs only[go_sem,↓reduceIte,q2,b13,e];have N3:=N1.still k3;have x3:=x1.Zd k3;have R3:=ZA N3.ZG.2 N3.pt.store.len;have Pm:=Za N3.ZG.2;have hs3:=Za x3.2;have r3:rd h3 ⟨h.size,0,none⟩ 5=some x.C:=Zq x3.2 rfl;refine VS.z (h3.size) [7,10] (.p 0 (.p 1 (.p 2 (.p 3 (.q 4 (.q 5 (.s 6 (.w 7 (.p 8 (.p 9 (.w 10 .nil))))))))))) mixed (by kernel_rfl) ?_;simp -implicitDefEqProofs only[go_sem,↓reduceIte,R3.queue,Pm,r3,hs3];have k4:=ZY k3.ZX (.cells x.C.toArray 47);have N4:=N3.still k4;refine NK (l:=n.queue) N4.pt.queue k4.ZX Zb hq ?_;intro p c o5 h5 w5 k5;have b5:=N4.ZG.Zd k5 (by intro e;cases e);have W5:=YY b5.2 N4.pt.store.len;have w:=W5.queue (.slice p (n.queue.length+1) c) rfl;simp -implicitDefEqProofs only[go_sem,↓reduceIte,w];exact⟨o5,_,(((ZF k1).Z3 b13).push _).trans (k5.mono fun u q=>.inr q) |>.set b5.1 (.inl rfl) _,(N4.pt.Gy k5 w5).put k5.ZX b5⟩
def QV (i:Nat) (t:Tg):Prop:=t=.world∨t=.told∨t=.node i∨t=.known i∨t=.log i∨t=.queue i∨t=.waiting i
theorem qS {β:Type}:∀(l:List (Int × β)) (ks:List Int),ks.Nodup→(∀k∈ks,(Yu l k).isSome=true)→ks.length≤l.length:=by
 intro l
 induction l with
 | nil=>
  intro ks _ h
  cases ks with
  | nil=>simp
  | cons k ks=>have:=h k (by simp);simp[Yu]at this
 | cons x l ih=>
  intro ks hn h;obtain⟨a,v⟩:=x;have h1:(ks.erase a).length≤l.length:=ih _ (hn.erase a) fun k hk=>by
   have PZ:=(List.Nodup.mem_erase_iff hn).1 hk;have:=h k PZ.2;unfold Yu at this;rw[if_neg (fun e=>PZ.1 e.symm)]at this;exact this
  have h2:ks.length≤(ks.erase a).length+1:=by
   rw[List.length_erase];split<;>omega
  simp only[List.length_cons];omega
theorem CD {β:Type} (l:List (Int × β)) (a m:Nat) (h:∀j,j<m→(Yu l ((a+j:Nat):Int)).isSome=true):m≤l.length:=by
 have:=qS l ((List.range m).map fun j=>((a+j:Nat):Int)) ?_ ?_
 ·simpa using this
 ·rw[List.nodup_iff_pairwise_ne,List.pairwise_map];exact (List.nodup_range (n:=m)).imp fun {x y} hxy he=>hxy (by omega)
 ·intro k hk;simp only[List.mem_map,List.mem_range]at hk;obtain⟨j,hj,rfl⟩:=hk;exact h j hj
theorem fa (T:World) (h:Hp) (cs:List Value) (s:ON cs) (x:Cm):Zc Tryz.prog T 14 #[.agg cs.toArray,Vj x] h fun v' h'=>v'=.tuple #[.agg (F9 cs x).toArray,.agg #[.int .i64 (Pg cs x),.int .i64 (Ia cs x)],.int .i64 (Uc cs x)]∧Zg h.size h h':=by
 refine (KH T h cs x.k x.c x.s x.n x.v s.fit s.num s.yes).mono ?_;rintro v' h' ⟨H,b⟩;refine⟨?_,b⟩;rw[H];unfold doL F9 Pg Ia Uc JH;by_cases e:Oy cs x.k x.c x.s x.n x.v=0
 ·rw[if_pos e,if_pos e,if_pos e,if_pos e,e]
 ·rw[if_neg e,if_neg e,if_neg e,if_neg e]
theorem ON.qU {cs:List Value} (h:Yq XI cs=true):ON cs:=⟨h,KW h,MD h⟩
theorem ON.do {cs:List Value} (s:ON cs) (x:Cm):ON (F9 cs x):=by
 obtain⟨D,a,b,h1,h2,_⟩:=eJ s.fit x;refine ON.qU ?_;unfold doL at h1;unfold F9 Uc JH;by_cases e:Oy cs x.k x.c x.s x.n x.v=0
 ·rw[if_pos e]at h1 ⊢;simp only[List.cons.injEq,Value.agg.injEq,Array.mk.injEq]at h1;rw[h1.1];exact h2
 ·rw[if_neg e]at h1 ⊢;simp only[List.cons.injEq,Value.agg.injEq,Array.mk.injEq]at h1;rw[h1.1];exact h2
theorem MM {T:World} {K:Value→Hp→Prop} {ty:TypeId} {o:Ow} {t:Tg} {h:Hp} {v:Value} {l:List Ri} {x:Ri} {bx:Nat} {cb:Array Bool} (s:YG o t 132 5 h v l.length (Zz Ig l)) (d:UF o h) (hb:h[bx]? = some (.cells (Ig x).toArray 132)) (hr:l.length≤1000000000000)
  (H:∀p c o' h',YG o' t 132 5 h' (.slice p (l.length+1) c) (l++[x]).length (Zz Ig (l++[x]))→Kp (fun u=>u=t) o h o' h'→K (.slice p (l.length+1) c) h') :
  T6 Tryz.prog T .append #[26,26] ty cb [v,.slice (some ⟨bx,0,none⟩) 1 1] K h:=by
 have src:Sl 5 h (.slice (some ⟨bx,0,none⟩) 1 1) 1 (Ig x):=⟨_,1,rfl,rfl,fun _=>⟨bx,0,rfl,fun i hi=>by
  rw[Zh hb,Yj,Nat.zero_add];exact List.getElem?_eq_getElem hi⟩⟩
 refine Ja (E:=132) (n:=5) (bytes:=40) (k:=1) Zfe Tryz.underlying26 Zfj Zfl rfl Zfk s d src rfl (by omega) (by omega) ?_;intro v' o' h' w k _;obtain⟨p,c,rfl,_⟩:=w.isSlice;refine H p c o' h' ?_ k;rw[Yh,Ur,List.length_append];exact w
theorem ZI.fb {o o1:Ow} {h h1:Hp} {wb:Nat} {nb:Nat→Nat} {a:WA} {fl:List Y7} {bad:Nat→Int} {told qV:List Ri} {v:Value} (W:ZI o h wb nb a fl bad told) (k:Kp (fun t=>t=.told) o h o1 h1)
  (hv:YG o1 .told 132 5 h1 v qV.length (Zz Ig qV)) {e:Option Hp} (w:e=some (h1.setIfInBounds wb (.cells (Xi bad { a with told:=v }).toArray 73))) :
  ∃g,e=some g∧ZI o1 g wb nb { a with told:=v } fl bad qV∧Kp (fun t=>t=.world) o1 h1 o1 g:=by
 have b:=W.ZG.Zd k (by intro e;cases e);have kk:Kp (fun t=>t=.world) o1 h1 o1 (h1.setIfInBounds wb (.cells (Xi bad { a with told:=v }).toArray 73)):=(Kp.refl k.ZX (fun t=>t=.world)).set b.1 rfl _;exact⟨_,w,⟨⟨b.1,Zx b.2⟩,(W.nodes.Zd k (by intro e;cases e)).Zd kk (by intro e;cases e),(W.Zn.Zd k (by intro e;cases e)).Zd kk (by intro e;cases e),hv.Zd kk (by intro e;cases e)⟩,kk⟩
def fc:Option Value→Nat
 | some (.slice _ l _)=>l
 | _=>0
set_option maxHeartbeats 1000000 in
theorem Ik (T:World) (h:Hp) (o:Ow) (wb i nb:Nat) (Ya:Nat→Nat) (a:NA) (n:Nd) (YL:WA) (fl:List Y7) (bad:Nat→Int) (told:List Ri) (s:Int) (x:Cm) (d:UF o h)
  (N:ZM o h wb i nb a n) (W:ZI o h wb Ya YL fl bad told) (hk:n.known.length≤100000000000) (hl:n.log.length≤100000000000) (ht:told.length≤100000000000) (hq:n.queue.length≤1000000000000) (hw:n.waiting.length≤1000000000000) :
  Zc Tryz.prog T 93 #[Zp wb,Zp nb,.int .i64 s,Vj x] h fun v' h'=>∃o' a' Xz,Kp (QV i) o h o' h'∧ZM o' h' wb i nb a' (UC n s x).n∧ZI o' h' wb Ya Xz fl bad (told++(UC n s x).ts):=by
 have WC:=Za N.ZG.2;have Ec:=Za W.ZG.2;refine Zc.Zj (args:=[_,_,_,_]) Tryz.func93 rfl rfl rfl rfl ?_;unfold Zp Vj;simp -implicitDefEqProofs only[go_sem,↓reduceIte];obtain⟨h1,YN⟩:=Zy (h.push (.cells x.C.toArray 47):Hp);have k1:Kp QL o h o h1:=by rw[YN];exact ZY d _
 have x1:ZR o h1 h.size (.cells x.C.toArray 47):=⟨d _ (Nat.le_refl _),by rw[YN];exact Zb⟩
 rw[←YN];have N1:=N.still k1;have W1:=W.still k1;clear YN;have R1:=ZA N1.ZG.2 N1.pt.store.len;have JU:=Za N1.ZG.2;have hs1:=Za x1.2;have r1:rd h1 ⟨h.size,0,none⟩ 5=some x.C:=Zq x1.2 rfl;refine VS.z (h1.size) [6] (.p 0 (.p 1 (.p 2 (.q 3 (.p 4 (.q 5 (.w 6 .nil))))))) mixed (by kernel_rfl) ?_;simp -implicitDefEqProofs only[go_sem,↓reduceIte,R1.known,JU,r1,hs1];have km:=XV (K:=fun _ _=>True) (x:=.agg x.C.toArray) (n:=s) Tb N1.pt.known.2 (P:=Tryz.prog);rw[XV Tb N1.pt.known.2];have k2:Kp (fun t=>t=.known i) o h1 o (h1.setIfInBounds a.known (Xs (ins (UK Vj n.known) s (.agg x.C.toArray)))):=(Kp.refl k1.ZX (fun t=>t=.known i)).set N1.pt.known.1 rfl _;have m2:QE o (.known i) (h1.setIfInBounds a.known (Xs (ins (UK Vj n.known) s (.agg x.C.toArray)))) a.known (UK Vj (ins n.known s x)):=
  ⟨N1.pt.known.1,by rw[Zx N1.pt.known.2,Se];rfl⟩
 have N2:ZM o (h1.setIfInBounds a.known (Xs (ins (UK Vj n.known) s (.agg x.C.toArray)))) wb i nb a (QS n s x):=⟨N1.ZG.Zd k2 (by intro e;cases e),N1.pt.jx k2 m2⟩
 have W2:=W1.Zd k2 (by rintro t rfl;simp[Tg.of]);have K2:Kp (QV i) o h o (h1.setIfInBounds a.known (Xs (ins (UK Vj n.known) s (.agg x.C.toArray)))):=(ZF k1).trans (k2.mono fun t q=>.inr (.inr (.inr (.inl q))));generalize (h1.setIfInBounds a.known (Xs (ins (UK Vj n.known) s (.agg x.C.toArray))))=h2 at *;clear km;unfold UC;obtain⟨L,hL⟩:=Zy ((QS n s x).known.length);have hLb:L≤100000000001:=by
  rw[hL];unfold QS;simp only[RV];split<;>omega
 obtain⟨n0,HP⟩:=Zy (QS n s x);rw[←HP]at N2 hL ⊢;rw[←hL];have hl0:n0.log.length≤100000000000:=by rw[HP];exact hl
 have hq0:n0.queue.length≤1000000000000:=by rw[HP];exact hq
 have hw0:n0.waiting.length≤1000000000000:=by rw[HP];exact hw
 clear N1 W1 R1 JU hs1 r1 k2 m2 N W hk hl hq hw HP k1 x1;simp -implicitDefEqProofs only[go_sem,↓reduceIte];refine VS.ZW (fun F g=>F 0=.pointer (some ⟨wb,0,none⟩)∧F 1=.pointer (some ⟨nb,0,none⟩)∧∃o' a' Xz m ts f j,Kp (QV i) o h o' g∧ZM o' g wb i nb a' m∧ZI o' g wb Ya Xz fl bad (told++ts)∧f+j=L+1∧m.known=n0.known∧m.log.length=n0.log.length+j ∧
   m.queue.length≤1000000000000∧m.waiting.length≤1000000000000∧ts.length≤j∧(∀j',j'<j→(Yu n0.known ((n0.log.length+j':Nat):Int)).isSome=true)∧(Yz (L+1) n0).1=(Yz f m).1∧(Yz (L+1) n0).2=ts++(Yz f m).2)
  (fun F g=>n0.log.length+L+2-fc (hc g ⟨nb,11,none⟩)) rfl ⟨rfl,rfl,o,a,YL,n0,[],L+1,0,K2,N2,by rw[List.append_nil];exact W2,rfl,rfl,rfl,hq0,hw0,Nat.le_refl _,fun j' h=>by omega,rfl,rfl⟩ ?_
 rintro F g ⟨f0,f1,o',a',Xz,m,ts,f,j,K,M,V,hf,dB,aY,hmq,hmw,hts,hjs,g1,g2⟩;have R:=ZA M.ZG.2 M.pt.store.len;have xu:=Za M.ZG.2;obtain⟨lp,lc,HC,hlc⟩:=YG.isSlice M.pt.log;have mu:fc (hc g ⟨nb,11,none⟩)=m.log.length:=by rw[R.log,HC];rfl
 rw[mu];have R11:=R.log;rw[HC]at R11;have lk:=fun (K:Value→Hp→Prop)=>Yy (K:=K) (n:=(m.log.length:Int)) (c:=true) Tb OM M.pt.known.2;have VD:=fun (K:Value→Hp→Prop) (x:Obj)=>Yy (h:=g.push x) (K:=K) (n:=(m.log.length:Int)) (c:=true) Tb OM ((Zu (Za M.pt.known.2)).trans M.pt.known.2);rw[Xr]at lk;simp only[Xr]at VD;simp -implicitDefEqProofs only[go_sem,↓reduceIte,f0,f1]
 cases hx:Yu m.known (m.log.length:Int) with
 | none=>
  rw[hx]at lk;simp only[hx,Option.map_none,Option.getD_none,Option.isSome_none,↓reduceIte]at lk VD;have e:f≠0→Yz f m=(m,[]):=fun Yv=>by
   obtain⟨f',rfl⟩:∃f',f=f'+1:=⟨f-1,by omega⟩
   unfold Yz;rw[hx]
  have e':Yz f m=(m,[]):=by
   by_cases q:f=0
   ·subst q;rfl
   ·exact e q
  rw[e']at g1 g2;refine VS.mono (N:=fun F' g'=>Zg g.size g g'∧F' 9=.bool false) ?_ ?_ (fun _ _ _ h=>h) (fun _ _ h=>h)
  ·refine VS.z (g.size) [9,14] (.p 0 (.p 1 (.p 2 (.q 3 (.p 4 (.p 5 (.p 6 (.q 7 (.p 8 (.or 9 (.p 10 (.p 11 (.p 12 (.s 13 (.w 14 (.p 15 .nil)))))) (.s 13 (.w 9 (.p 10 (.p 11 (.p 12 (.w 14 (.p 15 .nil))))))))))))))))) mixed (by kernel_rfl) ?_;simp -implicitDefEqProofs only[go_sem,↓reduceIte,f0,f1,R.known,R11,xu,lk,VD]
   repeat' (first|exact Zg.refl _ _|exact Zg.push (Nat.le_refl _) _|refine And.intro ?_ ?_)
  ·rintro F' g' ⟨b,f9⟩;simp -implicitDefEqProofs only[go_sem,↓reduceIte,f9];rw[g1,g2,List.append_nil];exact⟨o',a',Xz,K.Z3 b,M.still (ZE K.ZX b),V.still (ZE K.ZX b)⟩
 | some y=>
  rw[hx]at lk;simp only[hx,Option.map_some,Option.getD_some,Option.isSome_some,↓reduceIte]at lk VD;refine VS.mono (N:=fun F' g'=>Zg g.size g g'∧F' 0=.pointer (some ⟨wb,0,none⟩)∧F' 1=.pointer (some ⟨nb,0,none⟩)∧F' 9=.bool true∧F' 8=.pointer (some ⟨g.size,0,none⟩)∧g'[g.size]? = some (.cells y.C.toArray 47)) ?_ ?_ (fun _ _ _ h=>h) (fun _ _ h=>h)
  ·refine VS.z (g.size) [9,14] (.p 0 (.p 1 (.p 2 (.q 3 (.p 4 (.p 5 (.p 6 (.q 7 (.p 8 (.or 9 (.p 10 (.p 11 (.p 12 (.s 13 (.w 14 (.p 15 .nil)))))) (.s 13 (.w 9 (.p 10 (.p 11 (.p 12 (.w 14 (.p 15 .nil))))))))))))))))) mixed (by kernel_rfl) ?_;simp -implicitDefEqProofs only[go_sem,↓reduceIte,f0,f1,R.known,R11,xu,lk,VD,Vj];have gp:∀x:Obj,(g.push x)[g.size]? = some x:=fun x=>Zb
   repeat' (first|exact Zg.refl _ _|exact Zg.push (Nat.le_refl _) _|exact gp _|refine And.intro ?_ ?_)
  ·rintro F2 g2 ⟨b2,f20,f21,f29,f28,x2⟩;simp -implicitDefEqProofs only[go_sem,↓reduceIte,f29];have kb:=ZE K.ZX b2;have M2:=M.still kb;have V2:=V.still kb;have bx2:ZR o' g2 g.size (.cells y.C.toArray 47):=⟨K.ZX _ (Nat.le_refl _),x2⟩
   have K2:=K.Z3 b2;have So:=xu;clear R R11 lk VD xu mu;have R2:=ZA M2.ZG.2 M2.pt.store.len;have JZ:=Za M2.ZG.2;have hs2:=Za x2;have r2:rd g2 ⟨g.size,0,none⟩ 5=some y.C:=Zq x2 rfl;refine VS.z (g2.size) [7,10] (.p 0 (.p 1 (.p 2 (.p 3 (.q 4 (.q 5 (.s 6 (.w 7 (.p 8 (.p 9 (.w 10 .nil))))))))))) mixed (by kernel_rfl) ?_;simp -implicitDefEqProofs only[go_sem,↓reduceIte,f20,f21,f28,R2.log,JZ,hs2,r2];have k3:=ZY K2.ZX (.cells y.C.toArray 47);refine NK (l:=m.log) (M2.still k3).pt.log k3.ZX Zb (by omega) ?_;intro p c o3 g3 w3 kk3;have k3':Kp (fun t=>t=.log i) o' g2 o3 g3:=(ZF k3).trans kk3;have b3:=M2.ZG.Zd k3' (by intro e;cases e);have w:=(YY b3.2 M2.pt.store.len).log (.slice p (m.log.length+1) c) rfl;simp -implicitDefEqProofs only[go_sem,↓reduceIte,w];have M4:=(M2.pt.xq k3' w3).put k3'.ZX b3;have kn:Kp (fun t=>t=.node i) o3 g3 o3 (g3.setIfInBounds nb (Xl { m with log:=m.log++[y] } { a' with log:=.slice p (m.log.length+1) c })):=(Kp.refl k3'.ZX (fun t=>t=.node i)).set b3.1 rfl _;have V4:=(V2.Zd k3' (by rintro t rfl;simp[Tg.of])).Zd kn (by rintro t rfl;simp[Tg.of]);have x4:=(bx2.Zd k3').Zd kn;have K4:Kp (QV i) o h o3 (g3.setIfInBounds nb (Xl { m with log:=m.log++[y] } { a' with log:=.slice p (m.log.length+1) c })):=
    (K2.trans (k3'.mono fun t q=>.inr (.inr (.inr (.inr (.inl q)))))).trans (kn.mono fun t q=>.inr (.inr (.inl q)))
   obtain⟨g4,OR⟩:=Zy (g3.setIfInBounds nb (Xl m { a' with log:=.slice p (m.log.length+1) c }));rw[show Xl { m with log:=m.log++[y] } { a' with log:=.slice p (m.log.length+1) c } = Xl m { a' with log:=.slice p (m.log.length+1) c } from rfl,←OR]at M4 V4 x4 K4;rw[←OR];clear OR kn;have R4:=ZA M4.ZG.2 M4.pt.store.len;have Ld:=Za M4.ZG.2;have hs4:=Za x4.2;have r4:rd g4 ⟨g.size,0,none⟩ 5=some y.C:=Zq x4.2 rfl;have call:=fun G=>fa T G m.store M4.pt.store y;have R4s:rd g4 ⟨nb,12,none⟩ 40=some m.store:=R4.store;have hD:=(M4.pt.store.do y)
   have hD0:F9 ({ m with log:=m.log++[y] }:Nd).store y=F9 m.store y:=rfl;rw[hD0]at hD;obtain⟨D,hDe⟩:=Zy (F9 m.store y);obtain⟨E,hE⟩:=Zy (Uc m.store y);obtain⟨c1,Us⟩:=Zy (Pg m.store y);obtain⟨c2,HS⟩:=Zy (Ia m.store y);rw[←hDe]at hD;rw[←hDe,←hE,←Us,←HS]at call;have MN:=hD.len;have BF:=hD.one;unfold Vj at call;have IW:=ZH (zs:=Yt) (vs:=D) (by rw[MN];rfl);unfold Yt at IW;simp only[rep,List.cons_append,List.nil_append]at IW;have wA:∀(G:Hp) (k:Nat),G[k]? = some (.cells Yt.toArray 43)→wr G ⟨k,0,none⟩ D=some (G.setIfInBounds k (.cells D.toArray 43)):=fun G k hx=>by
    rw[ZU hx 0 D,ZH (by rw[MN];rfl),if_pos ⟨by rw[MN];simp[Yt,rep],BF⟩]
   have wB:∀(G:Hp) (k:Nat),G[k]? = some (.cells [.int .i64 0,.int .i64 0].toArray 39)→wr G ⟨k,0,none⟩ [.int .i64 c1,.int .i64 c2]=some (G.setIfInBounds k (.cells [.int .i64 c1,.int .i64 c2].toArray 39)):=fun G k hx=>by
    rw[ZU hx 0 _];rfl
   have gl:∀(G:Hp) (X Y:Obj),((G.push X).push Y)[G.size]? = some X:=fun G X Y=>by rw[Zu (by simp),Zb]
   have gs:∀(G:Hp) (k:Nat) (X Y:Obj),((G.setIfInBounds k X).push Y)[G.size]? = some Y:=fun G k X Y=>by
    have:=Zb (h:=G.setIfInBounds k X) (o:=Y);rwa [Array.size_setIfInBounds]at this
   have gl':=gs;have gr:∀(G:Hp) (X Y:Obj),((G.push X).push Y)[G.size+1]? = some Y:=fun G X Y=>by
    have:=Zb (h:=G.push X) (o:=Y);rwa [Array.size_push]at this
   refine VS.mono (N:=fun F' g'=>Zg g4.size g4 g'∧F' 0=.pointer (some ⟨wb,0,none⟩)∧F' 1=.pointer (some ⟨nb,0,none⟩)∧F' 8=.pointer (some ⟨g.size,0,none⟩)∧∃A B,F' 10=.pointer (some ⟨A,0,none⟩)∧F' 11=.pointer (some ⟨B,0,none⟩)∧g4.size≤A∧g4.size≤B∧g'[A]? = some (.cells D.toArray 43)∧g'[B]? = some (.cells [.int .i64 c1,.int .i64 c2].toArray 39)) ?_ ?_ (fun _ _ _ h=>h) (fun _ _ h=>h)
   ·refine VS.z (g4.size) [5,12,13] (.p 0 (.p 1 (.p 2 (.q 3 (.q 4 (.or 5 (.p 6 (.p 7 (.p 8 (.p 9 (.or 10 (.s 11 (.w 12 (.w 13 (.p 14 .nil)))) (.s 11 (.s 10 (.w 12 (.w 13 (.p 14 .nil)))))))))) (.or 10 (.or 5 (.p 6 (.p 7 (.p 8 (.p 9 (.s 11 (.w 12 (.w 13 (.p 14 .nil)))))))) (.s 11 (.w 5 (.p 6 (.p 7 (.p 8 (.p 9 (.w 12 (.w 13 (.p 14 .nil)))))))))) (.s 11 (.or 5 (.p 6 (.p 7 (.p 8 (.p 9 (.s 10 (.w 12 (.w 13 (.p 14 .nil)))))))) (.s 10 (.w 5 (.p 6 (.p 7 (.p 8 (.p 9 (.w 12 (.w 13 (.p 14 .nil)))))))))))))))))) mixed (by kernel_rfl) ?_;simp -implicitDefEqProofs only[go_sem,↓reduceIte,f20,f21,f28,R4s,Ld,hs4,r4]
    repeat' (first|with_reducible exact Zg.refl _ _|with_reducible exact Zg.push (by omega) _|with_reducible refine And.intro ?_ ?_)
    all_goals first
     | (refine (call g4).use ?_
        rintro _ g5 ⟨rfl,b5⟩;have s5:=b5.size;simp -implicitDefEqProofs only[go_sem,↓reduceIte,b5,MN,BF,IW];refine⟨⟨f20,f21,f28,_,_,rfl,rfl,s5,by omega,gl _ _ _,gr _ _ _⟩,⟨f20,f21,f28,_,_,rfl,rfl,by omega,s5,gr _ _ _,gl _ _ _⟩⟩)
     | (refine (call (g4.push (.cells _ 43))).use ?_
        rintro _ g5 ⟨rfl,b5⟩;have s5:=b5.size;rw[Array.size_push]at s5;have B5:Zg g4.size g4 g5:=(Zg.push (Nat.le_refl _) _).trans (b5.mono (by simp));have xA:=b5.get (k:=g4.size) (by simp) Zb;have TV:=wA _ _ xA;have zA:=Za xA;have gA:=Zx (o:=.cells D.toArray 43) xA;simp -implicitDefEqProofs only[go_sem,↓reduceIte,B5,MN,BF,TV,zA];exact⟨f20,f21,f28,_,_,rfl,rfl,Nat.le_refl _,by omega,by rw[Zu (by simpa using zA)];exact gA,gs _ _ _ _⟩)
     | (refine (call (g4.push (.cells _ 39))).use ?_
        rintro _ g5 ⟨rfl,b5⟩;have s5:=b5.size;rw[Array.size_push]at s5;have B5:Zg g4.size g4 g5:=(Zg.push (Nat.le_refl _) _).trans (b5.mono (by simp));have xB:=b5.get (k:=g4.size) (by simp) Zb;have Il:=wB _ _ xB;have zB:=Za xB;have gB:=Zx (o:=.cells [.int .i64 c1,.int .i64 c2].toArray 39) xB;simp -implicitDefEqProofs only[go_sem,↓reduceIte,B5,MN,BF,Il,IW,zB];exact⟨f20,f21,f28,_,_,rfl,rfl,by omega,Nat.le_refl _,gl' _ _ _ _,by rw[Zu (by simpa using zB)];exact gB⟩)
     | (refine (call ((g4.push (.cells _ 43)).push (.cells _ 39))).use ?_
        rintro _ g5 ⟨rfl,b5⟩;have s5:=b5.size;rw[Array.size_push,Array.size_push]at s5;have B5:Zg g4.size g4 g5:=((Zg.push (Nat.le_refl _) _).Yg (by simp) _).trans (b5.mono (by simp;omega));have xA:=b5.get (k:=g4.size) (by simp;omega) (gl _ _ _);have xB:=b5.get (k:=g4.size+1) (by simp) (gr _ _ _);have TV:=wA _ _ xA;have zA:=Za xA;have NL:=(Yk (o:=.cells D.toArray 43) (show g4.size≠g4.size+1 by omega)).trans xB;have Il:=wB _ _ NL;have zB:=Za NL;simp -implicitDefEqProofs only[go_sem,↓reduceIte,B5,MN,BF,TV,zA,Il,zB];exact⟨f20,f21,f28,_,_,rfl,rfl,by omega,by omega,(Yk (by omega)).trans (Zx xA),Zx NL⟩)
     | (refine (call ((g4.push (.cells _ 39)).push (.cells _ 43))).use ?_
        rintro _ g5 ⟨rfl,b5⟩;have s5:=b5.size;rw[Array.size_push,Array.size_push]at s5;have B5:Zg g4.size g4 g5:=((Zg.push (Nat.le_refl _) _).Yg (by simp) _).trans (b5.mono (by simp;omega));have xB:=b5.get (k:=g4.size) (by simp;omega) (gl _ _ _);have xA:=b5.get (k:=g4.size+1) (by simp) (gr _ _ _);have TV:=wA _ _ xA;have zA:=Za xA;have NL:=(Yk (o:=.cells D.toArray 43) (show g4.size+1≠g4.size by omega)).trans xB;have Il:=wB _ _ NL;have zB:=Za NL;simp -implicitDefEqProofs only[go_sem,↓reduceIte,B5,MN,BF,TV,zA,Il,zB];exact⟨f20,f21,f28,_,_,rfl,rfl,by omega,by omega,(Yk (by omega)).trans (Zx xA),Zx NL⟩)
   ·rintro F5 g5 ⟨b5,f50,f51,f58,A,B,f5A,f5B,hA,hB,yA,yB⟩;have GC:=ZE K4.ZX b5;have M5:=M4.still GC;have V5:=V4.still GC;have x5:=x4.Zd GC;have K5:=K4.Z3 b5;have z5:=Za M5.ZG.2;have rA:rd g5 ⟨A,0,none⟩ 40=some D:=Zq yA MN;obtain⟨g6,w6,M6,k6⟩:=ZV.write (n:={ m with log:=m.log++[y],store:=D }) { M5.pt with store:=hD } K5.ZX M5.ZG ((YY M5.ZG.2 M5.pt.store.len).store D MN BF);have V6:=V5.Zd k6 (by rintro t rfl;simp[Tg.of]);have x6:=x5.Zd k6;have K6:Kp (QV i) o h o3 g6:=K5.trans (k6.mono fun t q=>.inr (.inr (.inl q)));have xB6:=(show ZR o3 g5 B _ from⟨K4.ZX _ (by omega),yB⟩).Zd k6;have R6:=ZA M6.ZG.2 MN;have z6:=Za M6.ZG.2;clear R4 R4s Ld hs4 r4 R2 JZ hs2 r2;simp -implicitDefEqProofs only[go_sem,↓reduceIte,f50,f51,f58,f5A,f5B,rA,w6,MN,R6.queue,z5];refine (CA T g6 o3 (.queue i) _ m.queue g.size y M6.pt.queue K6.ZX x6 (by omega)).use ?_;rintro v7 g7 ⟨q7,k7⟩;obtain⟨p7,c7,rfl,_⟩:=YG.isSlice q7;have b7:=M6.ZG.Zd k7 (by intro e;cases e);obtain⟨g8,w8,M8,k8⟩:=(M6.pt.Gy k7 q7).write k7.ZX b7 ((YY b7.2 MN).queue (.slice p7 _ c7) rfl);have z7:=Za b7.2;have V8:=(V6.Zd k7 (by rintro t rfl;simp[Tg.of])).Zd k8 (by rintro t rfl;simp[Tg.of]);have x8:=(x6.Zd k7).Zd k8;have xB8:=(xB6.Zd k7).Zd k8;have K8:Kp (QV i) o h o3 g8:=(K6.trans (k7.mono fun t q=>.inr (.inr (.inr (.inr (.inr (.inl q))))))).trans (k8.mono fun t q=>.inr (.inr (.inl q)));have R8:=ZA M8.ZG.2 MN;have z8:=Za M8.ZG.2;simp -implicitDefEqProofs only[go_sem,↓reduceIte,f50,f51,f58,w8,z7,R8.waiting];refine (Ii T g8 _ m.waiting g.size y M8.pt.waiting.ts x8.2 (by omega)).use ?_;rintro _ g9 ⟨rfl,b9⟩;have kb9:=ZE K8.ZX b9;have M9:=M8.still kb9;have V9:=V8.still kb9;have x9:=x8.Zd kb9;have xB9:=xB8.Zd kb9;have K9:=K8.Z3 b9;have TU:∃f',f=f'+1:=⟨f-1,by
     have:f≠0:=fun q=>by
      subst q;have hj:j=L+1:=by omega
      have:=CD n0.known n0.log.length (L+2) fun j' hj'=>by
       by_cases q:j'<j
       ·exact hjs j' q
       ·have:j'=j:=by omega
        subst this;rw[←aY,←dB,hx];rfl
      rw[←hL]at this;omega
     omega⟩
    obtain⟨f',rfl⟩:=TU;have lg:Yz (f'+1) m=((Yz f' (UL m y)).1,TH m y++(Yz f' (UL m y)).2):=by
     rw[Yz,hx]
    rw[lg]at g1 g2;have ZgY:∀j',j'<j+1→(Yu n0.known ((n0.log.length+j':Nat):Int)).isSome=true:=fun j' hj'=>by
     by_cases q:j'<j
     ·exact hjs j' q
     ·have:j'=j:=by omega
      subst this;rw[←aY,←dB,hx];rfl
    have wC:(m.queue.filter fun z=>decide (z≠y)).length≤m.queue.length:=List.length_filter_le _ _;have mono:∀(G:Hp) (nn:Nd) (aa:NA) (oo:Ow),ZM oo G wb i nb aa nn→nn.log.length=m.log.length+1→n0.log.length+L+2-fc (hc G ⟨nb,11,none⟩)<n0.log.length+L+2-m.log.length:=fun G nn aa oo H hh=>by
     have RR:=ZA H.ZG.2 H.pt.store.len;obtain⟨lp,lc,HC,hlc⟩:=YG.isSlice H.pt.log;have:fc (hc G ⟨nb,11,none⟩)=nn.log.length:=by rw[RR.log,HC];rfl
     rw[this,hh];omega
    by_cases hy:y∈m.waiting
    case neg=>
     have e1:Td m.waiting y = -1:=by unfold Td;rw[if_neg hy]
     have e2:TH m y=[]:=by unfold TH;rw[if_neg hy]
     have e3:m.waiting.erase y=m.waiting:=List.erase_of_not_mem hy;rw[e2]at g2;have e4:UL m y = { m with log:=m.log++[y],store:=D,queue:=m.queue.filter (fun z=>decide (z≠y)) }:=by unfold UL;rw[e3,←hDe]
     rw[e4]at g1 g2;rw[List.nil_append]at g2;simp -implicitDefEqProofs only[go_sem,↓reduceIte,e1];unfold Xp;refine⟨⟨f50,f51,o3,_,Xz,_,ts,f',j+1,K9,M9,V9,by omega,dB,by simp[aY];omega,by simp only;omega,hmw,by omega,ZgY,g1,g2⟩,mono _ _ _ _ M9 (by simp)⟩
    have e1:0≤Td m.waiting y:=(OP _ _).2 hy;have e5:Td m.waiting y=(m.waiting.idxOf y:Nat):=by unfold Td;rw[if_pos hy]
    obtain⟨r,hr⟩:=Zy (m.waiting.idxOf y);have tM:r<m.waiting.length:=by rw[hr];exact List.idxOf_lt_length_of_mem hy
    rw[←hr]at e5;have e2:TH m y=[⟨m.me,y.c,y.s,Pg m.store y,Ia m.store y⟩]:=by unfold TH;rw[if_pos hy]
    have e3:m.waiting.erase y=m.waiting.take r++m.waiting.drop (r+1):=by
     rw[List.erase_eq_eraseIdx_of_idxOf,List.eraseIdx_eq_take_drop_succ];exact hr.symm
    rw[e2]at g2;have R9:=ZA M9.ZG.2 MN;have z9:=Za M9.ZG.2;simp -implicitDefEqProofs only[go_sem,↓reduceIte,e1,e5,f50,f51,f58,R9.waiting,z9];refine (Cx T g9 o3 (.waiting i) _ m.waiting.length r _ M9.pt.waiting K9.ZX (xt _) tM (by omega)).use ?_;rintro v10 bE ⟨q10,jy⟩;have wl:(m.waiting.erase y).length=m.waiting.length-1:=by rw[e3,List.length_append,List.length_take,List.length_drop];omega
    have Q10:QU o3 (.waiting i) bE v10 (m.waiting.erase y):=by
     unfold QU;rw[wl,e3,Yh,←U7 OO _ _ (by omega),←Te OO _ _ (by omega)];exact q10
    obtain⟨p10,c10,rfl,_⟩:=YG.isSlice Q10;have b10:=M9.ZG.Zd jy (by intro e;cases e);obtain⟨tY,w11,M11,lq⟩:=(M9.pt.MK jy Q10).write jy.ZX b10 ((YY b10.2 MN).waiting (.slice p10 _ c10) rfl);have z10:=Za b10.2;have V11:=(V9.Zd jy (by rintro t rfl;simp[Tg.of])).Zd lq (by rintro t rfl;simp[Tg.of]);have x11:=(x9.Zd jy).Zd lq;have ZgZ:=(xB9.Zd jy).Zd lq;have K11:Kp (QV i) o h o3 tY:=(K9.trans (jy.mono fun t q=>.inr (.inr (.inr (.inr (.inr (.inr q))))))).trans (lq.mono fun t q=>.inr (.inr (.inl q)));have R11:=ZA M11.ZG.2 MN;have z11:=Za M11.ZG.2;have U11:=Y3 V11.ZG.2;have ZpQ:=Za V11.ZG.2;have rx1:hc tY ⟨g.size,1,none⟩=some (.int .i64 y.c):=Zh x11.2;have rx2:hc tY ⟨g.size,2,none⟩=some (.int .i64 y.s):=Zh x11.2;have rB:rd tY ⟨B,0,none⟩ 2=some [.int .i64 c1,.int .i64 c2]:=Zq ZgZ.2 rfl;have ZpT:=Za x11.2;have ZpU:=Za ZgZ.2;simp -implicitDefEqProofs only[go_sem,↓reduceIte,w11,z10];refine VS.z (tY.size) [17,21] (.p 0 (.p 1 (.p 2 (.p 3 (.p 4 (.q 5 (.p 6 (.p 7 (.p 8 (.q 9 (.p 10 (.q 11 (.p 12 (.q 13 (.q 14 (.p 15 (.s 16 (.w 17 (.p 18 (.p 19 (.p 20 (.w 21 .nil)))))))))))))))))))))) mixed (by kernel_rfl) ?_;simp -implicitDefEqProofs only[go_sem,↓reduceIte,f50,f51,f58,f5B,U11.told,R11.me,rx1,rx2,rB,z11,ZpQ,ZpT,ZpU];have xw:=ZY K11.ZX (.cells (Ig ⟨m.me,y.c,y.s,c1,c2⟩).toArray 132);have V12:=V11.still xw;refine MM (l:=told++ts) (x:=⟨m.me,y.c,y.s,c1,c2⟩) V12.told xw.ZX Zb (by rw[List.length_append];omega) ?_;intro p13 c13 o13 g13 q13 k13;have b13:=V12.ZG.Zd k13 (by intro e;cases e);obtain⟨g14,w14,V14,k14⟩:=V12.fb k13 q13 ((Y3 b13.2).Zaa (.slice p13 _ c13) rfl);have z13:=Za b13.2;simp -implicitDefEqProofs only[go_sem,↓reduceIte,w14,z13];have M14:=((M11.still xw).Zd k13 (by rintro t rfl;simp[Tg.of])).Zd k14 (by rintro t rfl;simp[Tg.of]);have K14:Kp (QV i) o h o13 g14:=(((K11.trans (ZF xw)).trans (k13.mono fun t q=>.inr (.inl q))).trans (k14.mono fun t q=>.inl q))
    have e4:UL m y = { m with log:=m.log++[y],store:=D,queue:=m.queue.filter (fun z=>decide (z≠y)),waiting:=m.waiting.erase y }:=by unfold UL;rw[←hDe]
    rw[e4]at g1 g2;rw[←Us,←HS]at g2;obtain⟨ZBQ,V15⟩:∃A,ZI o13 g14 wb Ya A fl bad (told++(ts++[⟨m.me,y.c,y.s,c1,c2⟩])):=⟨_,by rw[←List.append_assoc];exact V14⟩
    rw[←List.append_assoc]at g2;unfold Xp;refine⟨⟨f50,f51,o13,_,_,_,ts++[⟨m.me,y.c,y.s,c1,c2⟩],f',j+1,K14,M14,V15,by omega,dB,by simp[aY];omega,by simp only;omega,by simp only;omega,by simp;omega,ZgY,g1,g2⟩,mono _ _ _ _ M14 (by simp)⟩
def Zg0 (o:Ow) (h:Hp) (wb:Nat) (Ya:Nat→Nat) (fl:List Y7) (bad:Nat→Int) (told:List Ri) (h':Hp):Prop:=
 ∃o' Xz,Kp eW o h o' h'∧ZI o' h' wb Ya Xz fl bad told
theorem fe (T:World) (h:Hp) (o:Ow) (wb nb:Nat) (Ya:Nat→Nat) (me:Nat) (YL:WA) (fl:List Y7) (bad:Nat→Int) (told:List Ri) (b3 b4 b5 b7:Nat) (l:Y7) (w5 w:Value) (vs:List Vt) (d:UF o h)
  (W:ZI o h wb Ya YL fl bad told) (Hy:hc h ⟨nb,0,none⟩=some (.int .i64 me)) (WC:nb<h.size) (Yr:fl.length≤1000000000000)
  (x3:ZR o h b3 (.cells [Zp wb].toArray 67)) (x4:ZR o h b4 (.cells [Zp nb].toArray 74)) (x5:ZR o h b5 (.cells (Y2 l w5).toArray 111)) (x7:ZR o h b7 (.cells [w].toArray 79)) (iv:Wz o h w vs) :
  Zc Tryz.prog T 89 #[Zp b3,Zp b4,Zp b5,Zp b7] h fun v' h'=>Zg0 o h wb Ya (fl++[⟨1,me,l.JI,l.b,Tn,vs⟩]) bad told h':=by
 obtain⟨pw,cw,rfl⟩:=iv.isSlice;refine Zc.Zj (args:=[_,_,_,_]) Tryz.func89 rfl rfl rfl rfl ?_;unfold Zp;have r3:hc h ⟨b3,0,none⟩=some (Zp wb):=Zh x3.2;have r4:hc h ⟨b4,0,none⟩=some (Zp nb):=Zh x4.2;have r5:hc h ⟨b5,1,none⟩=some (.int .i64 l.JI):=Zh x5.2;have r6:rd h ⟨b5,3,none⟩ 2=some [.int .i64 l.b.r,.int .i64 l.b.n]:=by rw[Z8 x5.2 (by simp[Y2])];rfl
 have r7:hc h ⟨b7,0,none⟩=some (.slice pw vs.length cw):=Zh x7.2;simp -implicitDefEqProofs only[go_sem,↓reduceIte,r3,r4,r5,r6,r7];refine (U0 T h o wb nb Ya me YL fl bad told l.JI ⟨1,0,0,l.b,Tn,vs⟩ _ d W Hy WC iv Yr).use ?_;rintro v' h' ⟨o',Xz,k,_,W'⟩;simp -implicitDefEqProofs only[go_sem,↓reduceIte];exact⟨o',Xz,k,W'⟩
theorem ff (T:World) (h:Hp) (o:Ow) (wb nb:Nat) (Ya:Nat→Nat) (me:Nat) (YL:WA) (fl:List Y7) (bad:Nat→Int) (told:List Ri) (b3 b4 b5:Nat) (l:Y7) (w5:Value) (d:UF o h)
  (W:ZI o h wb Ya YL fl bad told) (Hy:hc h ⟨nb,0,none⟩=some (.int .i64 me)) (WC:nb<h.size) (Yr:fl.length≤1000000000000)
  (x3:ZR o h b3 (.cells [Zp wb].toArray 67)) (x4:ZR o h b4 (.cells [Zp nb].toArray 74)) (x5:ZR o h b5 (.cells (Y2 l w5).toArray 111)) :
  Zc Tryz.prog T 94 #[Zp b3,Zp b4,Zp b5] h fun v' h'=>Zg0 o h wb Ya (fl++[⟨3,me,l.JI,Jp,l.v,[]⟩]) bad told h':=by
 refine Zc.Zj (args:=[_,_,_]) Tryz.func94 rfl rfl rfl rfl ?_;unfold Zp;have r3:hc h ⟨b3,0,none⟩=some (Zp wb):=Zh x3.2;have r4:hc h ⟨b4,0,none⟩=some (Zp nb):=Zh x4.2;have r5:hc h ⟨b5,1,none⟩=some (.int .i64 l.JI):=Zh x5.2;have r6:rd h ⟨b5,5,none⟩ 8=some (Zo l.v):=by rw[Z8 x5.2 (by simp[Y2])];rfl
 unfold Zo at r6;simp -implicitDefEqProofs only[go_sem,↓reduceIte,r3,r4,r5,r6];refine (U0 T h o wb nb Ya me YL fl bad told l.JI ⟨3,0,0,Jp,l.v,[]⟩ (.slice none 0 0) d W Hy WC (Im.nil _ _ _ _) Yr).use ?_;rintro v' h' ⟨o',Xz,k,_,W'⟩;simp -implicitDefEqProofs only[go_sem,↓reduceIte];exact⟨o',Xz,k,W'⟩
def Zcp (i:Nat) (t:Tg):Prop:=t=.world∨t=.Zn∨t=.node i∨t=.prom i∨t=.Xk i
theorem xx (T:World) (h:Hp) (o:Ow) (wb i nb:Nat) (Ya:Nat→Nat) (YL:WA) (fl:List Y7) (bad:Nat→Int) (told:List Ri) (a:NA) (n:Nd) (acc:QI) (to:Int) (b:YE) (vs:List Vt) (b6 b4 b9:Nat) (u:Value) (d:UF o h)
  (N:ZM o h wb i nb a n) (W:ZI o h wb Ya YL fl bad told) (Yr:fl.length≤1000000000000)
  (x6:SA o h b6 acc) (x4:ZR o h b4 (.cells [Zp nb].toArray 74)) (x9:ZR o h b9 (.cells [u].toArray 1)) (hu:qJ o h wb nb u to b vs) :
  Zc Tryz.prog T 91 #[Zp b6,Zp b4,Zp b9] h fun v' h'=>∃o' a' Xz,Kp (Zcp i) o h o' h'∧ZM o' h' wb i nb a' { n with own:=acc }∧ZI o' h' wb Ya Xz (fl++[⟨1,n.me,to,b,Tn,vs⟩]) bad told:=by
 obtain⟨wa,xa,ia⟩:=x6;obtain⟨pa,ca,rfl⟩:=ia.isSlice;obtain⟨b3,aq,b5,b7,l,w5,w,rfl,y3,y4,y5,rfl,rfl,y7,iv⟩:=hu;have WC:=Za N.ZG.2;refine Zc.Zj (args:=[_,_,_]) Tryz.func91 rfl rfl rfl rfl ?_;unfold Zp;have r4:hc h ⟨b4,0,none⟩=some (Zp nb):=Zh x4.2;have r6:rd h ⟨b6,0,none⟩ 3=some [.int .i64 acc.p.r,.int .i64 acc.p.n,.slice pa acc.l.length ca]:=Zq xa.2 rfl;obtain⟨g1,w1,N1,k1⟩:=ZV.write (a:={ a with YM:=.slice pa acc.l.length ca }) (n:={ n with own:=acc }) { N.pt with YM:=ia } d N.ZG ((YY N.ZG.2 N.pt.store.len).own acc.p.r acc.p.n (.slice pa acc.l.length ca) rfl);have W1:=W.Zd k1 (by rintro t rfl;simp[Tg.of]);have x91:=x9.Zd k1;have r9:hc g1 ⟨b9,0,none⟩=some (WM 89 [b3,aq,b5,b7]):=Zh x91.2;unfold WM at r9;simp only[List.map]at r9;unfold Zp at r4 r9;simp -implicitDefEqProofs only[go_sem,↓reduceIte,r4,r6,w1,WC,r9];have R1:=ZA N1.ZG.2 N1.pt.store.len;refine (fe T g1 o wb nb Ya n.me YL fl bad told b3 aq b5 b7 l w5 w vs k1.ZX W1 R1.me (Za N1.ZG.2) Yr (y3.Zd k1) (y4.Zd k1) (y5.Zd k1) (y7.Zd k1) (iv.Zd k1)).use ?_;rintro v' h' ⟨o',Xz,k,W'⟩;simp -implicitDefEqProofs only[go_sem,↓reduceIte];exact⟨o',_,Xz,(k1.mono fun t q=>.inr (.inr (.inl q))).trans (k.mono fun t q=>q.elim .inl fun q=>.inr (.inl q)),N1.Zd k (by rintro t (rfl|rfl)<;>simp[Tg.of]),W'⟩
theorem xy (T:World) (h:Hp) (o:Ow) (wb i nb:Nat) (Ya:Nat→Nat) (YL:WA) (fl:List Y7) (bad:Nat→Int) (told:List Ri) (a:NA) (n:Nd) (acc:QI) (to:Int) (x:Vt) (b6 b4 b9:Nat) (u:Value) (d:UF o h)
  (N:ZM o h wb i nb a n) (W:ZI o h wb Ya YL fl bad told) (Yr:fl.length≤1000000000000)
  (x6:SA o h b6 acc) (x4:ZR o h b4 (.cells [Zp nb].toArray 74)) (x9:ZR o h b9 (.cells [u].toArray 1)) (hu:qL o h wb nb u to x) :
  Zc Tryz.prog T 97 #[Zp b6,Zp b4,Zp b9] h fun v' h'=>∃o' a' Xz,Kp (Zcp i) o h o' h'∧ZM o' h' wb i nb a' { n with own:=acc }∧ZI o' h' wb Ya Xz (fl++[⟨3,n.me,to,Jp,x,[]⟩]) bad told:=by
 obtain⟨wa,xa,ia⟩:=x6;obtain⟨pa,ca,rfl⟩:=ia.isSlice;obtain⟨b3,aq,b5,l,w5,rfl,y3,y4,y5,rfl,rfl⟩:=hu;have WC:=Za N.ZG.2;refine Zc.Zj (args:=[_,_,_]) Tryz.func97 rfl rfl rfl rfl ?_;unfold Zp;have r4:hc h ⟨b4,0,none⟩=some (Zp nb):=Zh x4.2;have r6:rd h ⟨b6,0,none⟩ 3=some [.int .i64 acc.p.r,.int .i64 acc.p.n,.slice pa acc.l.length ca]:=Zq xa.2 rfl;obtain⟨g1,w1,N1,k1⟩:=ZV.write (a:={ a with YM:=.slice pa acc.l.length ca }) (n:={ n with own:=acc }) { N.pt with YM:=ia } d N.ZG ((YY N.ZG.2 N.pt.store.len).own acc.p.r acc.p.n (.slice pa acc.l.length ca) rfl);have W1:=W.Zd k1 (by rintro t rfl;simp[Tg.of]);have x91:=x9.Zd k1;have r9:hc g1 ⟨b9,0,none⟩=some (WM 94 [b3,aq,b5]):=Zh x91.2;unfold WM at r9;simp only[List.map]at r9;unfold Zp at r4 r9;simp -implicitDefEqProofs only[go_sem,↓reduceIte,r4,r6,w1,WC,r9];have R1:=ZA N1.ZG.2 N1.pt.store.len;refine (ff T g1 o wb nb Ya n.me YL fl bad told b3 aq b5 l w5 k1.ZX W1 R1.me (Za N1.ZG.2) Yr (y3.Zd k1) (y4.Zd k1) (y5.Zd k1)).use ?_;rintro v' h' ⟨o',Xz,k,W'⟩;simp -implicitDefEqProofs only[go_sem,↓reduceIte];exact⟨o',_,Xz,(k1.mono fun t q=>.inr (.inr (.inl q))).trans (k.mono fun t q=>q.elim .inl fun q=>.inr (.inl q)),N1.Zd k (by rintro t (rfl|rfl)<;>simp[Tg.of]),W'⟩
theorem Uf.ins {o:Ow} {h:Hp} {k:Int} {w:Value} {vs:List Vt} (iv:Wz o h w vs):∀{pv:List (Int × Value)} {pr:List (Int × List Vt)},Uf o h pv pr→Uf o h (Go.V.ins pv k w) (Go.V.ins pr k vs):=by
 intro pv pr s
 induction s with
 | nil=>exact .cons ⟨rfl,iv⟩ .nil
 | @cons a b l m Fe _ ih=>
  obtain⟨a1,a2⟩:=a;obtain⟨b1,b2⟩:=b;obtain⟨rfl,h2⟩:=Fe;show Dq _ (if a1=k then (a1,w) :: l else (a1,a2) :: Go.V.ins l k w) (if a1=k then (a1,vs) :: m else (a1,b2) :: Go.V.ins m k vs);by_cases q:a1=k
  ·rw[if_pos q,if_pos q];exact .cons ⟨rfl,iv⟩ (by assumption)
  ·rw[if_neg q,if_neg q];exact .cons ⟨rfl,h2⟩ ih
theorem Uf.length {o:Ow} {h:Hp} {pv:List (Int × Value)} {pr:List (Int × List Vt)} (s:Uf o h pv pr):pv.length=pr.length:=by
 induction s with
 | nil=>rfl
 | cons _ _ ih=>simp[ih]
theorem Uf.Yu {o:Ow} {h:Hp} {pv:List (Int × Value)} {pr:List (Int × List Vt)} (s:Uf o h pv pr) (k:Int):(Go.V.Yu pv k=none∧Go.V.Yu pr k=none)∨∃w vs,Go.V.Yu pv k=some w∧Go.V.Yu pr k=some vs∧Wz o h w vs:=by
 induction s with
 | nil=>exact .inl ⟨rfl,rfl⟩
 | @cons a b l m Fe _ ih=>
  obtain⟨a1,a2⟩:=a;obtain⟨b1,b2⟩:=b;obtain⟨rfl,h2⟩:=Fe;unfold Go.V.Yu;by_cases q:a1=k
  ·rw[if_pos q,if_pos q];exact .inr ⟨_,_,rfl,rfl,h2⟩
  ·rw[if_neg q,if_neg q];exact ih
theorem YP.fg {o:Ow} {i:Nat} {h:Hp} {ra:RA} {r:Jw} (s:YP o i h ra r) (d:UF o h) {k:Int} {w:Value} {vs:List Vt} (iv:Wz o h w vs) :
  Kp (fun t=>t=.prom i) o h o (h.setIfInBounds ra.pb (Xs (ins ra.pv k w)))∧YP o i (h.setIfInBounds ra.pb (Xs (ins ra.pv k w))) { ra with pv:=ins ra.pv k w } { r with prom:=ins r.prom k vs }:=by
 have kk:Kp (fun t=>t=.prom i) o h o (h.setIfInBounds ra.pb (Xs (ins ra.pv k w))):=(Kp.refl d (fun t=>t=.prom i)).set s.prom.1 rfl _;exact⟨kk,s.ZG.Zd kk (by intro e;cases e),⟨s.prom.1,Zx s.prom.2⟩,Uf.Zd (Uf.ins iv s.Sz) kk,s.prop.Zd kk (by intro e;cases e),s.Xy.Zd kk (by intro e;cases e),s.Tc.Zd kk (fun _ e=>by cases e),s.keys⟩
theorem ZV.jz {o o':Ow} {h h':Hp} {wb i nb:Nat} {a:NA} {n:Nd} (s:ZV o h wb i nb a n) (k:Kp (fun t=>t=.Xk i) o h o' h') (hp:n.ZB=none):ZV o' h' wb i nb a n:=
 ⟨s.data.Zd k,s.YM.Zd k,s.Zi.Zd k (fun t ht=>by rcases ht with rfl|rfl|rfl|rfl|⟨z,rfl⟩<;>intro e<;>cases e),s.known.Zd k (by intro e;cases e),s.log.Zd k (by intro e;cases e),s.queue.Zd k (by intro e;cases e),s.waiting.Zd k (by intro e;cases e),s.inbox.Zd k (by intro e;cases e),by
  have:=s.ZB;rw[hp]at this ⊢;exact this,s.store⟩
theorem MO {n:Nd} {a:NA} {ra ra':RA} (r:Option Jw) (h:a.Zi=some ra) (hb:ra'.rb=ra.rb):Xl { n with Zi:=r } { a with Zi:=some ra' } = Xl n a:=by
 unfold Xl UP;simp only[h,Pk,hb]
def ZpZ (i:Nat) (t:Tg):Prop:=t=.node i∨t=.prom i∨t=.Xk i
theorem xz (T:World) (h:Hp) (o:Ow) (wb i nb:Nat) (a:NA) (n:Nd) (acc:QI) (vs:List Vt) (cur:Bool) (v:Value) (d:UF o h)
  (N:ZM o h wb i nb a n) (hp:n.ZB=none) (hv:ZgT o h i nb a.Zi v acc vs cur) :
  ∃b6 b4 b7 b5,v=WM 98 [b6,b4,b7,b5]∧Zc Tryz.prog T 98 #[Zp b6,Zp b4,Zp b7,Zp b5] h fun v' h'=>∃o' a',Kp (ZpZ i) o h o' h'∧ZM o' h' wb i nb a' { n with own:=acc,Zi:=if cur=true then n.Zi.map (fun r=>{ r with prom:=ins r.prom n.me vs }) else n.Zi }:=by
 obtain⟨b6,b4,b7,b5,w,rb,rfl,⟨wa,xa,ia⟩,x4,x7,iv,x5,Zg1⟩:=hv;obtain⟨pa,ca,rfl⟩:=ia.isSlice;obtain⟨pw,cw,rfl⟩:=iv.isSlice;refine⟨b6,b4,b7,b5,rfl,?_⟩;have WC:=Za N.ZG.2;refine Zc.Zj (args:=[_,_,_,_]) Tryz.func98 rfl rfl rfl rfl ?_;unfold Zp;have r4:hc h ⟨b4,0,none⟩=some (Zp nb):=Zh x4.2;have r6:rd h ⟨b6,0,none⟩ 3=some [.int .i64 acc.p.r,.int .i64 acc.p.n,.slice pa acc.l.length ca]:=Zq xa.2 rfl;obtain⟨g1,w1,N1,k1⟩:=ZV.write (a:={ a with YM:=.slice pa acc.l.length ca }) (n:={ n with own:=acc }) { N.pt with YM:=ia } d N.ZG ((YY N.ZG.2 N.pt.store.len).own acc.p.r acc.p.n (.slice pa acc.l.length ca) rfl);unfold Zp at r4;simp -implicitDefEqProofs only[go_sem,↓reduceIte,r4,r6,w1,WC];have y4:=x4.Zd k1;have y5:=x5.Zd k1;have y7:=x7.Zd k1;have q4:hc g1 ⟨b4,0,none⟩=some (Zp nb):=Zh y4.2;have q5:hc g1 ⟨b5,0,none⟩=some (Zp rb):=Zh y5.2;have q7:hc g1 ⟨b7,0,none⟩=some (.slice pw vs.length cw):=Zh y7.2;unfold Zp at q4 q5;have l4:=Za y4.2;have l5:=Za y5.2;have l7:=Za y7.2;have R1:=ZA N1.ZG.2 N1.pt.store.len;have lnb:=Za N1.ZG.2;have xC:=iv.Zd k1;refine VS.z (g1.size) [9] (.q 0 (.p 1 (.p 2 (.q 3 (.q 4 (.p 5 (.p 6 (.q 7 (.q 8 (.w 9 .nil)))))))))) mixed (by kernel_rfl) ?_
 cases cur with
 | true=>
  obtain⟨ra,NM,rfl⟩:=Zg1;have hR:=N1.pt.Zi;have jA:({ a with YM:=.slice pa acc.l.length ca }:NA).Zi=some ra:=NM;rw[jA]at hR
  cases hr:n.Zi with
  | none=>rw[show ({ n with own:=acc }:Nd).Zi=none from hr]at hR;exact hR.elim
  | some r=>
   rw[show ({ n with own:=acc }:Nd).Zi=some r from hr]at hR;have hR:YP o i g1 ra r:=hR;have rr:hc g1 ⟨ra.rb,2,none⟩=some (.map (some ra.pb)):=Zh hR.ZG.2;have BG:=Za hR.ZG.2;simp -implicitDefEqProofs only[go_sem,↓reduceIte,q4,q5,q7,l4,l5,l7,lnb,R1.me,rr,BG];rw[XV MH hR.prom.2];simp -implicitDefEqProofs only[go_sem,↓reduceIte];obtain⟨k2,R2⟩:=hR.fg k1.ZX (k:=n.me) xC;have k2':Kp (XN i) o g1 o _:=k2.mono fun t q=>.inr (.inl q);refine⟨o,{ ({ a with YM:=.slice pa acc.l.length ca }:NA) with Zi:=some { ra with pv:=ins ra.pv n.me (.slice pw vs.length cw) } },(k1.mono fun t q=>.inl q).trans (k2.mono fun t q=>.inr (.inl q)),?_,?_⟩
   ·have:=N1.ZG.Zd k2 (by intro e;cases e);rw[←MO (some { r with prom:=ins r.prom n.me vs }) jA (ra':={ ra with pv:=ins ra.pv n.me (.slice pw vs.length cw) }) rfl]at this;exact this
   ·exact ZV.QF N1.pt k2' jA rfl R2
 | false=>
  obtain⟨cs,pb,pv,y1,y2,y3⟩:=Zg1;have z1:=y1.Zd k1 (by intro e;cases e);have z3:=y3.Zd k1 (by intro e;cases e);have rr:hc g1 ⟨rb,2,none⟩=some (.map (some pb)):=by rw[VM z1.2];exact y2
  have BG:=Za z1.2;simp -implicitDefEqProofs only[go_sem,↓reduceIte,q4,q5,q7,l4,l5,l7,lnb,R1.me,rr,BG];rw[XV MH z3.2];simp -implicitDefEqProofs only[go_sem,↓reduceIte];have k2:Kp (fun t=>t=.Xk i) o g1 o (g1.setIfInBounds pb (Xs (ins pv n.me (.slice pw vs.length cw)))):=(Kp.refl k1.ZX (fun t=>t=.Xk i)).set z3.1 rfl _;exact⟨o,_,(k1.mono fun t q=>.inl q).trans (k2.mono fun t q=>.inr (.inr q)),N1.ZG.Zd k2 (by intro e;cases e),N1.pt.jz k2 hp⟩
end Go.Proofs.YtboeoomhjbcecaaGreatDoor

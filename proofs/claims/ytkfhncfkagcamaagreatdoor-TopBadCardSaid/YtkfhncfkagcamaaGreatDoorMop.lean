/- The nodes of a cluster, in plain words: what each piece of the program makes of them. Definitions alone. -/
import Derived.Test.YtkfhncfkagcamaaGreatDoorOpn
import Derived.Test.YtkfhncfkagcamaaGreatDoorMix
import Derived.Test.YtkfhncfkagcamaaGreatDoorChw
import Derived.Test.YtkfhncfkagcamaaGreatDoorPik
import Derived.Test.YtkfhncfkagcamaaGreatDoorW25
namespace Go.Proofs.YtkfhncfkagcamaaGreatDoor
open Go Go.V
set_option linter.unusedSimpArgs false
set_option linter.unusedVariables false
deriving instance DecidableEq for XO
deriving instance DecidableEq for Vt
deriving instance DecidableEq for J8
abbrev Cm:=J8
def qE:Cm:=⟨0,0,0,0,0⟩
def J8.C (x:J8):List Value:=Qi x.k x.c x.s x.n x.v
def J8.err (x:J8):Int:=YI x.k x.c x.s x.n x.v
def Vt.cm (v:Vt):Cm:=⟨v.k,v.c,v.s,v.nm,v.v⟩
def TD (s:Int) (b:XO) (x:Cm):Vt:=⟨s,b,x.k,x.c,x.s,x.n,x.v⟩
def JI:XO:=⟨0,0⟩
structure Y9 where
 kind:Int
 Ju:Int
 to:Int
 b:XO
 v:Vt
 vs:List Vt
structure Qn where
 b:XO
 prom:List (Int × List Vt)
 begun:Bool
 prop:List (Int × Cm)
 Jv:List (Int × List (Int × Unit))
inductive gT where
 | G8 (a:Vi) (to:Int) (b:XO) (vs:List Vt)
 | G9 (a:Vi) (to:Int) (v:Vt)
 | own (a:Vi) (vs:List Vt) (cur:Bool)
structure Nd where
 me:Nat
 up:Bool
 data:List Nat
 Xs:Int
 own:Vi
 heard:XO
 Zl:Option Qn
 known:List (Int × Cm)
 log:List Cm
 store:List Value
 queue:List Cm
 waiting:List Cm
 inbox:List Y9
 ZT:Option gT
 Xj:Int
structure Sd where
 node:Int
 c:Int
 s:Int
 code:Int
 val:Int
structure Wd where
 nodes:Nat→Nd
 Zj:List Y9
 bad:Nat→Int
 told:List Sd
structure Out where
 n:Nd
 ls:List Y9
 ts:List Sd
def Y2 (n:Nd) (l:Y9):Out:=
 if Yv n.own.p n.own.l l.b≠0 then ⟨n,[⟨7,n.me,l.Ju,n.own.p,T9,[]⟩],[]⟩
 else if n.own.p=l.b then ⟨n,[⟨1,n.me,l.Ju,l.b,T9,n.own.l⟩],[]⟩
 else if Qv n.data n.Xs l.b≠0 then ⟨n,[],[]⟩
 else ⟨{ n with data:=n.data++Y4 (Qw l.b),ZT:=some (.G8 ⟨l.b,n.own.l⟩ l.Ju l.b n.own.l) },[],[]⟩
def asked (n:Nd) (l:Y9):Out:=
 if YX n.own.p n.own.l l.v≠0 then ⟨n,[⟨7,n.me,l.Ju,n.own.p,T9,[]⟩],[]⟩
 else if l.v∈n.own.l then ⟨n,[⟨3,n.me,l.Ju,JI,l.v,[]⟩],[]⟩
 else if Un n.data n.Xs l.v≠0 then ⟨n,[],[]⟩
 else ⟨{ n with data:=n.data++Y4 (SU l.v),ZT:=some (.G9 ⟨l.v.b,QF n.own.l l.v⟩ l.Ju l.v) },[],[]⟩
def Fa (st:List Value) (x:Cm):List Value:=if P9 st x=0 then (VG st x).cells else JA
def RK (st:List Value) (x:Cm):Int:=if P9 st x=0 then (VG st x).code else 0
def Kk (st:List Value) (x:Cm):Int:=if P9 st x=0 then (VG st x).val else 0
def U6 (n:Nd) (x:Cm):Nd:={ n with log:=n.log++[x],store:=Fa n.store x,queue:=n.queue.filter (fun y=>decide (y≠x)),waiting:=n.waiting.erase x }
def Tf (n:Nd) (x:Cm):List Sd:=if x∈n.waiting then [⟨n.me,x.c,x.s,RK n.store x,Kk n.store x⟩] else []
def YN:Nat→Nd→Nd × List Sd
 | 0,n=>(n,[])
 | k+1,n=>match Xe n.known n.log.length with
  | none=>(n,[])
  | some x=>((YN k (U6 n x)).1,Tf n x++(YN k (U6 n x)).2)
def Uo (n:Nd) (s:Int) (x:Cm):Nd:={ n with known:=ins n.known s x }
def Uu (n:Nd) (s:Int) (x:Cm):Out:=
 ⟨(YN ((Uo n s x).known.length+1) (Uo n s x)).1,[],(YN ((Uo n s x).known.length+1) (Uo n s x)).2⟩
def ZaC (n:Nd) (r:Qn) (l:Y9):Nd:={ n with Zl:=some { r with prom:=ins r.prom l.Ju l.vs } }
def TE (r:Qn) (l:Y9):List (Int × Unit):=ins ((Xe r.Jv l.v.slot).getD []) l.Ju ()
def Mr (n:Nd) (r:Qn) (l:Y9):Nd:={ n with Zl:=some { r with Jv:=ins r.Jv l.v.slot (TE r l) } }
def YB (n:Nd) (l:Y9):Out:=
 match n.Zl with
 | none=>⟨n,[],[]⟩
 | some r=>
  if l.kind=1 then (if l.b=r.b then ⟨ZaC n r l,[],[]⟩ else ⟨n,[],[]⟩)
  else if l.v.b≠r.b then ⟨n,[],[]⟩
  else if 5<2*(TE r l).length then Uu (Mr n r l) l.v.slot l.v.cm
  else ⟨Mr n r l,[],[]⟩
def add (n:Nd) (x:Cm):Nd:=if x∈n.queue∨x∈n.log then n else { n with queue:=n.queue++[x] }
def notes (n:Nd) (l:Y9):Nd:=if below n.heard l.b then { n with heard:=l.b } else n
def WH (n:Nd) (l:Y9):Out:=
 match Xe n.known l.v.slot with
 | some x=>⟨notes n l,[⟨6,n.me,l.Ju,JI,TD l.v.slot JI x,[]⟩],[]⟩
 | none=>⟨notes n l,[],[]⟩
def handle (n:Nd) (l:Y9):Out:=
 if l.kind=0 then Y2 n l else if l.kind=1∨l.kind=3 then YB n l else if l.kind=2 then asked n l
 else if l.kind=4 then ⟨add n l.v.cm,[],[]⟩ else if l.kind=5 then WH n l else if l.kind=6 then Uu n l.v.slot l.v.cm else ⟨notes n l,[],[]⟩
def XH (r:Qn):List (List Vt):=(List.range 5).map fun (m:Nat)=>(Xe r.prom (m:Int)).getD []
def DK (l:List Vt):Int:=l.foldl (fun t v=>if t<v.slot then v.slot else t) (-1)
def DL (LL:List (List Vt)) (s:Int):Cm:=if SJ s LL.flatten=0 then (U2 s LL.flatten).cm else qE
def QU (n:Nd) (LL:List (List Vt)) (pr:List (Int × Cm)) (s:Nat):List (Int × Cm):=if Xe n.known (s:Int)=none then ins pr (s:Int) (DL LL s) else pr
def Se (n:Nd) (r:Qn):Qn:=
 { r with prop:=(List.range' n.log.length ((DK (XH r).flatten+1).toNat-n.log.length)).foldl (QU n (XH r)) r.prop,begun:=true }
def Up (n:Nd) (r:Qn) (x:Cm):Nat→Nat→Option Nat
 | 0,_=>none
 | k+1,s=>if Xe r.prop (s:Int)=some x∨Xe n.known (s:Int)=some x then none
  else if Xe r.prop (s:Int)=none∧Xe n.known (s:Int)=none then some s else Up n r x k (s+1)
def free (n:Nd) (r:Qn) (x:Cm):Option Nat:=Up n r x (40-n.log.length) n.log.length
def VH (n:Nd) (r:Qn) (x:Cm):Qn:=match free n r x with|some s=>{ r with prop:=ins r.prop (s:Int) x }|none=>r
def JJ (n:Nd) (r:Qn) (l:List Cm):Qn:=l.foldl (VH n) r
def Kl (n:Nd) (r:Qn):List Y9:=(List.range 5).flatMap fun (m:Nat)=>if Xe r.prom (m:Int)=none then [⟨0,n.me,m,r.b,T9,[]⟩] else []
def Oa (n:Nd) (r:Qn) (s:Nat) (x:Cm) (m:Nat):List Y9:=if Xe ((Xe r.Jv (s:Int)).getD []) (m:Int)=none then [⟨2,n.me,m,JI,TD s r.b x,[]⟩] else []
def W0 (n:Nd) (r:Qn) (s:Nat):List Y9:=match Xe r.prop (s:Int) with
 | some x=>if Xe n.known (s:Int)=none then (List.range 5).flatMap (Oa n r s x) else []
 | none=>[]
def Km (n:Nd) (r:Qn):List Y9:=(List.range 40).flatMap (W0 n r)
def Kn (n:Nd) (r:Qn):Qn:=JJ n (if r.begun=true then r else Se n r) n.queue
def QH (n:Nd) (r:Qn):Out:=
 if below n.own.p r.b then
  (if Qv n.data n.Xs r.b≠0 then ⟨n,[],[]⟩ else
    ⟨{ n with data:=n.data++Y4 (Qw r.b),ZT:=some (.own (if Yv n.own.p n.own.l r.b=0 then ⟨r.b,n.own.l⟩ else QG) (if Yv n.own.p n.own.l r.b=0 then n.own.l else []) true) },[],[]⟩)
 else if ¬5<2*r.prom.length then ⟨n,Kl n r,[]⟩
 else ⟨{ n with Zl:=some (Kn n r) },Km n (Kn n r),[]⟩
def still (n:Nd):Nd:=match n.Zl with|some r=>if below r.b n.own.p then { n with Zl:=none } else n|none=>n
def Sf (n:Nd):List Y9:=n.queue.map fun x=>⟨4,n.me,n.own.p.n,JI,TD 0 JI x,[]⟩
def Yw (n:Nd):Out:=match n.Zl with
 | some r=>QH n r
 | none=>if 0<n.own.p.r∧n.own.p.n≠n.me then ⟨n,Sf n,[]⟩ else ⟨n,[],[]⟩
def Uv (n:Nd):XO:=if below n.own.p n.heard then n.heard else n.own.p
def Qt (n:Nd):Nd:={ n with Xj:=(n.Xj+1)%5 }
def Sg (n:Nd):List Y9:=if n.Xj≠n.me∧n.log.length<40 then [⟨5,n.me,n.Xj,Uv n,TD n.log.length JI qE,[]⟩] else []
def VI (n:Nd):Out:=
 if (Yw (still n)).n.ZT.isSome=true then Yw (still n)
 else ⟨Qt (Yw (still n)).n,(Yw (still n)).ls++Sg (Qt (Yw (still n)).n),[]⟩
def synced (n:Nd):Nd:={ n with data:=if Y5 n.data n.Xs then n.data else [],Xs:=if Y5 n.data n.Xs then (n.data.length:Int) else 0,ZT:=none }
def finish (n:Nd):gT→Out
 | .G8 a to b vs=>⟨{ n with own:=a },[⟨1,n.me,to,b,T9,vs⟩],[]⟩
 | .G9 a to v=>⟨{ n with own:=a },[⟨3,n.me,to,JI,v,[]⟩],[]⟩
 | .own a vs cur=>⟨{ n with own:=a,Zl:=if cur=true then n.Zl.map (fun r=>{ r with prom:=ins r.prom n.me vs }) else n.Zl },[],[]⟩
def drain:Nd→List Y9→Out
 | n,[]=>⟨{ n with inbox:=[] },[],[]⟩
 | n,l :: k=>if n.ZT.isSome=true then ⟨{ n with inbox:=l :: k },[],[]⟩
  else ⟨(drain (handle { n with inbox:=k } l).n k).n,(handle { n with inbox:=k } l).ls++(drain (handle { n with inbox:=k } l).n k).ls,(handle { n with inbox:=k } l).ts++(drain (handle { n with inbox:=k } l).n k).ts⟩
def step (n:Nd):Out:=
 if n.up=true then (match n.ZT with
  | some p=>finish (synced n) p
  | none=>if (drain n n.inbox).n.ZT.isSome=true then drain n n.inbox
   else ⟨(VI (drain n n.inbox).n).n,(drain n n.inbox).ls++(VI (drain n n.inbox).n).ls,(drain n n.inbox).ts++(VI (drain n n.inbox).n).ts⟩)
 else ⟨n,[],[]⟩
def blank (i:Nat) (up:Bool) (data:List Nat) (Xs:Int) (own:Vi):Nd:=⟨i,up,data,Xs,own,JI,none,[],[],JA,[],[],[],none,0⟩
def Qe (n:Nd):XO:=⟨match n.Zl with
 | some r=>max (max n.own.p.r n.heard.r+1) (r.b.r+1)
 | none=>max n.own.p.r n.heard.r+1,n.me⟩
def Xk:Option gT→Option gT
 | some (.own a vs _)=>some (.own a vs false)
 | p=>p
def lead (n:Nd):Nd:=if n.up=false∨65536<(Qe n).r then n else { n with Zl:=some ⟨Qe n,[],false,[],[]⟩,ZT:=Xk n.ZT }
def Qx (rc:List Nat) (now:Int):Cm:=if ZX rc now=0 then ⟨Xc ((YR rc).drop 22) 0,Xc ((YR rc).drop 22) 1,Xc ((YR rc).drop 22) 2,Xc ((YR rc).drop 22) 3,Xc ((YR rc).drop 22) 4⟩ else qE
def Ko (l:List Nat):Nat→Vi→Nat→Vi × Nat
 | 0,a,k=>(a,k)
 | f+1,a,k=>match Xz l a k with
  | none=>(a,k)
  | some x=>Ko l f x.1 x.2
def Sh (l:List Nat):Vi × Nat:=Ko l (l.length+1) QG 0
def cX (l:List Nat) (n k:Int):Int:=n+(if (l.length:Int)-n<k then (l.length:Int)-n else k)
def crashed (i:Nat) (n:Nd) (Zc:Int):Nd:=
 if n.up=true then (if Y5 n.data n.Xs∧0≤Zc then blank i false (n.data.take (cX n.data n.Xs Zc).toNat) (cX n.data n.Xs Zc) QG else blank i false [] 0 QG) else n
def ab (l:List Nat) (n:Int):List Nat:=if Y5 l n then l.take (Sh l).2 else []
def uA (l:List Nat) (n:Int):Int:=if Y5 l n then (if ((Sh l).2:Int)<n then ((Sh l).2:Int) else n) else 0
def started (i:Nat) (n:Nd):Nd:=
 if n.up=true then n else blank i true (ab n.data n.Xs) (uA n.data n.Xs) (if Y5 (ab n.data n.Xs) (uA n.data n.Xs) then (Sh (ab n.data n.Xs)).1 else QG)
structure Ac where
 kind:Int
 node:Nat
 at':Nat
 Zc:Int
 data:List Nat
def Wd.set (w:Wd) (i:Nat) (n:Nd):Wd:={ w with nodes:=fun j=>if j=i then n else w.nodes j }
def Wd.out (w:Wd) (i:Nat) (o:Out):Wd:={ nodes:=fun j=>if j=i then o.n else w.nodes j,Zj:=w.Zj++o.ls,bad:=w.bad,told:=w.told++o.ts }
def Jr (w:Wd) (l:Y9):Wd:=if (w.nodes l.to.toNat).up=true then w.set l.to.toNat { w.nodes l.to.toNat with inbox:=(w.nodes l.to.toNat).inbox++[l] } else w
def pick (w:Wd) (at':Nat) (comes stays:Bool):Wd:=
 match w.Zj[at'%w.Zj.length]? with
 | none=>w
 | some l=>if comes=true then Jr (if stays=true then w else { w with Zj:=w.Zj.eraseIdx (at'%w.Zj.length) }) l else (if stays=true then w else { w with Zj:=w.Zj.eraseIdx (at'%w.Zj.length) })
def Kq (n:Nd) (x:Cm):Nd:=if x∈n.waiting then n else { n with waiting:=n.waiting++[x] }
def QV (w:Wd) (i:Nat) (data:List Nat):Wd:=
 if (w.nodes i).up=true then
  (if ZX data (w.nodes i).log.length≠0 then { w with bad:=fun j=>if j=i then w.bad i+1 else w.bad j }
  else if Qx data (w.nodes i).log.length∈(w.nodes i).log then
   { w with told:=w.told++[⟨(w.nodes i).me,(Qx data (w.nodes i).log.length).c,(Qx data (w.nodes i).log.length).s,RK (w.nodes i).store (Qx data (w.nodes i).log.length),Kk (w.nodes i).store (Qx data (w.nodes i).log.length)⟩] }
  else w.set i (Kq (add (w.nodes i) (Qx data (w.nodes i).log.length)) (Qx data (w.nodes i).log.length)))
 else w
def act (w:Wd) (a:Ac):Wd:=
 if a.kind=1 then QV w a.node a.data
 else if a.kind=2 then w.set a.node (lead (w.nodes a.node))
 else if a.kind=3 then w.out a.node (step (w.nodes a.node))
 else if a.kind=4∨a.kind=5∨a.kind=6 then pick w a.at' (decide (a.kind≠5)) (decide (a.kind=6))
 else if a.kind=7 then w.Zj.foldl Jr { w with Zj:=[] }
 else if a.kind=8 then w.set a.node (crashed a.node (w.nodes a.node) a.Zc)
 else w.set a.node (started a.node (w.nodes a.node))
def Va:Wd:=⟨fun i=>blank i true [] 0 QG,[],fun _=>0,[]⟩
def SV (l:List Ac):Wd:=l.foldl act Va
set_option maxRecDepth 100000
@[go_sem] theorem VJ:bP Tryz.prog 133=some 47:=by kernel_rfl
@[go_sem] theorem NX:bP Tryz.prog 178=some 129:=by kernel_rfl
@[go_sem] theorem Kr:bP Tryz.prog 179=some 218:=by kernel_rfl
@[go_sem] theorem Hz:bP Tryz.prog 218=some 219:=by kernel_rfl
@[go_sem] theorem nP:bP Tryz.prog 196=some 195:=by kernel_rfl
@[go_sem] theorem Ob:wM Tryz.prog 47=some (.agg qE.C.toArray):=by kernel_rfl
@[go_sem] theorem nQ:wM Tryz.prog 129=some (.slice none 0 0):=by kernel_rfl
@[go_sem] theorem HC:wM Tryz.prog 218=some (.map none):=by kernel_rfl
@[go_sem] theorem xO:wM Tryz.prog 219=some (.agg #[]):=by kernel_rfl
@[go_sem] theorem Zfn:wM Tryz.prog 195=some .nilFunc:=by kernel_rfl
@[go_sem] theorem ZzM:tkp Tryz.prog 132=true:=by kernel_rfl
@[go_sem] theorem ZzN:tkm Tryz.prog 218=true:=by kernel_rfl
@[go_sem] theorem ZzO:sI Tryz.prog 1=true:=by kernel_rfl
inductive Tg where
 | world
 | nodes
 | Zj
 | told
 | node (i:Nat)
 | known (i:Nat)
 | log (i:Nat)
 | queue (i:Nat)
 | waiting (i:Nat)
 | inbox (i:Nat)
 | Zl (i:Nat)
 | prom (i:Nat)
 | prop (i:Nat)
 | Jv (i:Nat)
 | Th (i:Nat) (s:Int)
 | Xk (i:Nat)
def Tg.of:Tg→Option Nat
 | .world=>none
 | .nodes=>none
 | .Zj=>none
 | .told=>none
 | .node i=>some i
 | .known i=>some i
 | .log i=>some i
 | .queue i=>some i
 | .waiting i=>some i
 | .inbox i=>some i
 | .Zl i=>some i
 | .prom i=>some i
 | .prop i=>some i
 | .Jv i=>some i
 | .Th i _=>some i
 | .Xk i=>some i
abbrev Ow:=Nat→Option Tg
structure Im (o:Ow) (n:Nat) (h:Hp) (v:Value) (m:Nat) (cs:List Value):Prop where
 sl:Sl n h v m cs
 fits:∃p c,v=.slice p m c∧m≤c
 free:∀b,ZM v=some b→b<h.size∧o b=none
theorem Im.Zc {S:Tg→Prop} {o o':Ow} {n m:Nat} {h h':Hp} {v:Value} {cs:List Value} (s:Im o n h v m cs) (k:Kp S o h o' h'):Im o' n h' v m cs:=by
 obtain⟨⟨p,c,rfl,hl,qt⟩,⟨p',c',he,hm⟩,hf⟩:=s
 simp only[Value.slice.injEq,true_and]at he
 obtain⟨rfl,rfl⟩:=he
 have yU:∀b,ZM (.slice p m c)=some b→b<h.size∧o b=none∧h'[b]? = h[b]? ∧ o' b=none:=fun b hb=>by
  obtain⟨h1,h2⟩:=hf b hb
  obtain⟨h3,h4⟩:=k.Zc b h1 fun t ht=>by rw[h2]at ht;cases ht
  exact⟨h1,h2,h3,by rw[h4,h2]⟩
 refine⟨⟨p,c,rfl,hl,fun Yr=>?_⟩,⟨p,c,rfl,hm⟩,fun b hb=>⟨Nat.lt_of_lt_of_le (yU b hb).1 k.size,(yU b hb).2.2.2⟩⟩
 obtain⟨b,off,rfl,Yx⟩:=qt Yr
 have bH:c≠0:=by
  intro e
  have:m=0:=by omega
  subst this
  exact Yr (List.eq_nil_of_length_eq_zero (by simpa using hl))
 have hb:ZM (.slice (some ⟨b,off,none⟩) m c)=some b:=by simp[ZM,bH]
 refine⟨b,off,rfl,fun i hi=>?_⟩
 have:=Yx i hi
 unfold hc at this ⊢
 rw[(yU b hb).2.2.1]
 exact this
theorem Im.Qy {o:Ow} {B n m:Nat} {E:TypeId} {h:Hp} {v:Value} {cs:List Value} (s:Ql B E n h v m cs) (hd:∀b,B≤b→o b=none):Im o n h v m cs:=by
 refine⟨s.sl,?_,fun b hb=>?_⟩
 ·rcases s with⟨⟨p,rfl⟩,rfl,_⟩|⟨b,cap,sp,_,rfl,_,_,_,hm⟩
  ·exact⟨p,0,rfl,Nat.le_refl _⟩
  ·exact⟨_,cap,rfl,hm⟩
 ·exact⟨s.lt b hb,hd b (s.ZD b hb)⟩
theorem Im.nil (o:Ow) (n:Nat) (h:Hp) (p:Option Addr):Im o n h (.slice p 0 0) 0 []:=
 ⟨⟨p,0,rfl,by simp,fun Yr=>absurd rfl Yr⟩,⟨p,0,rfl,Nat.le_refl _⟩,fun b hb=>by cases p<;>simp[ZM]at hb⟩
def Wc (o:Ow) (h:Hp) (v:Value) (l:List Vt):Prop:=Im o 8 h v l.length (Zz Zm l)
def Ti (o:Ow) (h:Hp) (v:Value) (l:List Nat):Prop:=Im o 1 h v l.length (l.map bv)∧∀x∈l,x<256
theorem Wc.ts {o:Ow} {h:Hp} {v:Value} {l:List Vt} (s:Wc o h v l):Ts Zm 8 h v l:=⟨Im.sl s⟩
theorem Ti.bs {o:Ow} {h:Hp} {v:Value} {l:List Nat} (s:Ti o h v l):Bs h v l:=⟨s.1.sl,s.2⟩
theorem Wc.Zc {S:Tg→Prop} {o o':Ow} {h h':Hp} {v:Value} {l:List Vt} (s:Wc o h v l) (k:Kp S o h o' h'):Wc o' h' v l:=Im.Zc s k
theorem Ti.Zc {S:Tg→Prop} {o o':Ow} {h h':Hp} {v:Value} {l:List Nat} (s:Ti o h v l) (k:Kp S o h o' h'):Ti o' h' v l:=⟨s.1.Zc k,s.2⟩
def YS (l:Y9) (w:Value):List Value:=[.int .i64 l.kind,.int .i64 l.Ju,.int .i64 l.to,.int .i64 l.b.r,.int .i64 l.b.n,.int .i64 l.v.slot,.int .i64 l.v.b.r,.int .i64 l.v.b.n,.int .i64 l.v.k,.int .i64 l.v.c,.int .i64 l.v.s,.int .i64 l.v.nm,.int .i64 l.v.v,w]
def NY (x:Y9 × Value):List Value:=YS x.1 x.2
def VK (t:Sd):List Value:=[.int .i64 t.node,.int .i64 t.c,.int .i64 t.s,.int .i64 t.code,.int .i64 t.val]
def Zn (b:Nat):Value:=.pointer (some ⟨b,0,none⟩)
def WJ (x:Cm):Value:=.agg x.C.toArray
def Qz (o:Ow) (t:Tg) (h:Hp) (v:Value) (l:List Cm):Prop:=Ys o t 47 5 h v l.length (Zz J8.C l)
def QJ (o:Ow) (t:Tg) (h:Hp) (v:Value) (l:List Y9):Prop:=
 ∃xs:List (Y9 × Value),xs.map (·.1)=l∧Ys o t 163 14 h v xs.length (Zz NY xs)∧∀x∈xs,Wc o h x.2 x.1.vs
theorem Qz.Zc {S:Tg→Prop} {o o':Ow} {t:Tg} {h h':Hp} {v:Value} {l:List Cm} (s:Qz o t h v l) (k:Kp S o h o' h') (hn:¬S t):Qz o' t h' v l:=Ys.Zc s k hn
theorem QJ.Zc {S:Tg→Prop} {o o':Ow} {t:Tg} {h h':Hp} {v:Value} {l:List Y9} (s:QJ o t h v l) (k:Kp S o h o' h') (hn:¬S t):QJ o' t h' v l:=by
 obtain⟨xs,h1,h2,h3⟩:=s
 exact⟨xs,h1,h2.Zc k hn,fun x hx=>(h3 x hx).Zc k⟩
def Qf (o:Ow) (t:Tg) (h:Hp) (b:Nat) (l:List (Int × Value)):Prop:=o b=some t∧h[b]? = some (Xi l)
theorem Qf.Zc {S:Tg→Prop} {o o':Ow} {t:Tg} {h h':Hp} {b:Nat} {l:List (Int × Value)} (s:Qf o t h b l) (k:Kp S o h o' h') (hn:¬S t):Qf o' t h' b l:=by
 have S4:∀u,o b=some u→¬S u:=fun u hu=>by rw[s.1]at hu;cases hu;exact hn
 exact⟨by rw[k.own s.2 S4,s.1],k.get s.2 S4⟩
def QK (o:Ow) (t:Tg) (h:Hp) (b:Nat) (x:Obj):Prop:=o b=some t∧h[b]? = some x
theorem QK.Zc {S:Tg→Prop} {o o':Ow} {t:Tg} {h h':Hp} {b:Nat} {x:Obj} (s:QK o t h b x) (k:Kp S o h o' h') (hn:¬S t):QK o' t h' b x:=by
 have S4:∀u,o b=some u→¬S u:=fun u hu=>by rw[s.1]at hu;cases hu;exact hn
 exact⟨by rw[k.own s.2 S4,s.1],k.get s.2 S4⟩
def ZL (o:Ow) (h:Hp) (b:Nat) (x:Obj):Prop:=o b=none∧h[b]? = some x
theorem ZL.Zc {S:Tg→Prop} {o o':Ow} {h h':Hp} {b:Nat} {x:Obj} (s:ZL o h b x) (k:Kp S o h o' h'):ZL o' h' b x:=(k.free s.2 s.1).symm
def QW (o:Ow) (h:Hp) (pv:List (Int × Value)) (pr:List (Int × List Vt)):Prop:=Et (fun x y=>x.1=y.1∧Wc o h x.2 y.2) pv pr
theorem QW.Zc {S:Tg→Prop} {o o':Ow} {h h':Hp} {pv:List (Int × Value)} {pr:List (Int × List Vt)} (s:QW o h pv pr) (k:Kp S o h o' h'):QW o' h' pv pr:=by
 induction s with
 | nil=>exact .nil
 | cons a _ ih=>exact .cons ⟨a.1,a.2.Zc k⟩ ih
def Ms (l:List (Int × Unit)):List (Int × Value):=Ul (fun _=>.agg #[]) l
def QL (o:Ow) (i:Nat) (h:Hp) (sv:List (Int × Nat)) (vt:List (Int × List (Int × Unit))):Prop:=Et (fun x y=>x.1=y.1∧Qf o (.Th i y.1) h x.2 (Ms y.2)) sv vt
theorem QL.Zc {S:Tg→Prop} {o o':Ow} {i:Nat} {h h':Hp} {sv:List (Int × Nat)} {vt:List (Int × List (Int × Unit))} (s:QL o i h sv vt) (k:Kp S o h o' h') (hn:∀s,¬S (.Th i s)):QL o' i h' sv vt:=by
 induction s with
 | nil=>exact .nil
 | cons a _ ih=>exact .cons ⟨a.1,a.2.Zc k (hn _)⟩ ih
def qF (b:Nat):Value:=.map (some b)
structure RA where
 rb:Nat
 pb:Nat
 qb:Nat
 vb:Nat
 pv:List (Int × Value)
 sv:List (Int × Nat)
def ad (r:Qn) (a:RA):List Value:=[.int .i64 r.b.r,.int .i64 r.b.n,.map (some a.pb),.bool r.begun,.map (some a.qb),.map (some a.vb)]
structure YG (o:Ow) (i:Nat) (h:Hp) (a:RA) (r:Qn):Prop where
 ZD:QK o (.Zl i) h a.rb (.cells (ad r a).toArray 181)
 prom:Qf o (.prom i) h a.pb a.pv
 Si:QW o h a.pv r.prom
 prop:Qf o (.prop i) h a.qb (Ul WJ r.prop)
 Jv:Qf o (.Jv i) h a.vb (Ul qF a.sv)
 Tj:QL o i h a.sv r.Jv
 keys:(a.sv.map (·.1)).Nodup
def XA (i:Nat) (t:Tg):Prop:=t=.Zl i∨t=.prom i∨t=.prop i∨t=.Jv i∨∃s,t=.Th i s
theorem YG.Zc {S:Tg→Prop} {o o':Ow} {i:Nat} {h h':Hp} {a:RA} {r:Qn} (s:YG o i h a r) (k:Kp S o h o' h') (hn:∀t,XA i t→¬S t):YG o' i h' a r:=
 ⟨s.ZD.Zc k (hn _ (.inl rfl)),s.prom.Zc k (hn _ (.inr (.inl rfl))),s.Si.Zc k,s.prop.Zc k (hn _ (.inr (.inr (.inl rfl)))),s.Jv.Zc k (hn _ (.inr (.inr (.inr (.inl rfl))))),s.Tj.Zc k (fun s=>hn _ (.inr (.inr (.inr (.inr ⟨s,rfl⟩))))),s.keys⟩
def RL:Option RA→Value
 | some a=>Zn a.rb
 | none=>.pointer none
def uB (o:Ow) (i:Nat) (h:Hp):Option RA→Option Qn→Prop
 | some a,some r=>YG o i h a r
 | none,none=>True
 | _,_=>False
theorem uB.Zc {S:Tg→Prop} {o o':Ow} {i:Nat} {h h':Hp} {a:Option RA} {r:Option Qn} (s:uB o i h a r) (k:Kp S o h o' h') (hn:∀t,XA i t→¬S t):uB o' i h' a r:=by
 cases a<;>cases r<;>first|exact s|exact YG.Zc s k hn
def Wj (f:FuncId) (l:List Nat):Value:=.func (.func f) #[] (l.map Zn).toArray
def nR (o:Ow) (h:Hp) (wb nb:Nat) (v:Value) (to:Int) (b:XO) (vs:List Vt):Prop:=
 ∃b3 b4 b5 b7 l w5 w,v=Wj 122 [b3,b4,b5,b7]∧ZL o h b3 (.cells [Zn wb].toArray 117)∧ZL o h b4 (.cells [Zn nb].toArray 124) ∧
  ZL o h b5 (.cells (YS l w5).toArray 163)∧l.Ju=to∧l.b=b∧ZL o h b7 (.cells [w].toArray 129)∧Wc o h w vs
def nT (o:Ow) (h:Hp) (wb nb:Nat) (v:Value) (to:Int) (x:Vt):Prop:=
 ∃b3 b4 b5 l w5,v=Wj 127 [b3,b4,b5]∧ZL o h b3 (.cells [Zn wb].toArray 117)∧ZL o h b4 (.cells [Zn nb].toArray 124) ∧
  ZL o h b5 (.cells (YS l w5).toArray 163)∧l.Ju=to∧l.v=x
theorem nR.Zc {S:Tg→Prop} {o o':Ow} {h h':Hp} {wb nb:Nat} {v:Value} {to:Int} {b:XO} {vs:List Vt} (s:nR o h wb nb v to b vs) (k:Kp S o h o' h'):nR o' h' wb nb v to b vs:=by
 obtain⟨b3,b4,b5,b7,l,w5,w,h1,h2,h3,h4,h5,h6,h7,h8⟩:=s
 exact⟨b3,b4,b5,b7,l,w5,w,h1,h2.Zc k,h3.Zc k,h4.Zc k,h5,h6,h7.Zc k,h8.Zc k⟩
theorem nT.Zc {S:Tg→Prop} {o o':Ow} {h h':Hp} {wb nb:Nat} {v:Value} {to:Int} {x:Vt} (s:nT o h wb nb v to x) (k:Kp S o h o' h'):nT o' h' wb nb v to x:=by
 obtain⟨b3,b4,b5,l,w5,h1,h2,h3,h4,h5,h6⟩:=s
 exact⟨b3,b4,b5,l,w5,h1,h2.Zc k,h3.Zc k,h4.Zc k,h5,h6⟩
def Sj (o:Ow) (h:Hp) (b:Nat) (a:Vi):Prop:=∃w,ZL o h b (.cells (YJ a.p w).toArray 131)∧Wc o h w a.l
theorem Sj.Zc {S:Tg→Prop} {o o':Ow} {h h':Hp} {b:Nat} {a:Vi} (s:Sj o h b a) (k:Kp S o h o' h'):Sj o' h' b a:=by
 obtain⟨w,h1,h2⟩:=s
 exact⟨w,h1.Zc k,h2.Zc k⟩
def Zfo (o:Ow) (h:Hp) (i nb:Nat) (ra:Option RA) (v:Value) (a:Vi) (vs:List Vt) (cur:Bool):Prop:=
 ∃b6 b4 b7 b5 w rb,v=Wj 131 [b6,b4,b7,b5]∧Sj o h b6 a∧ZL o h b4 (.cells [Zn nb].toArray 124)∧ZL o h b7 (.cells [w].toArray 129)∧Wc o h w vs ∧
  ZL o h b5 (.cells [Zn rb].toArray 132) ∧
  (if cur=true then ∃a,ra=some a∧a.rb=rb else ∃cs pb pv,QK o (.Xk i) h rb (.cells cs 181)∧cs[2]? = some (.map (some pb))∧Qf o (.Xk i) h pb pv)
def Uf (o:Ow) (h:Hp) (wb i nb:Nat) (ra:Option RA):Value→Option gT→Prop
 | v,none=>v=.nilFunc
 | v,some (.G8 a to b vs)=>∃b6 b4 b9 u,v=Wj 124 [b6,b4,b9]∧Sj o h b6 a∧ZL o h b4 (.cells [Zn nb].toArray 124)∧ZL o h b9 (.cells [u].toArray 1)∧nR o h wb nb u to b vs
 | v,some (.G9 a to x)=>∃b6 b4 b9 u,v=Wj 130 [b6,b4,b9]∧Sj o h b6 a∧ZL o h b4 (.cells [Zn nb].toArray 124)∧ZL o h b9 (.cells [u].toArray 1)∧nT o h wb nb u to x
 | v,some (.own a vs cur)=>Zfo o h i nb ra v a vs cur
theorem Uf.Zc {S:Tg→Prop} {o o':Ow} {h h':Hp} {wb i nb:Nat} {ra:Option RA} {v:Value} {p:Option gT} (s:Uf o h wb i nb ra v p) (k:Kp S o h o' h') (hn:¬S (.Xk i)):Uf o' h' wb i nb ra v p:=by
 match p,s with
 | none,s=>exact s
 | some (.G8 a to b vs),⟨b6,b4,b9,u,h1,h2,h3,h4,h5⟩=>exact⟨b6,b4,b9,u,h1,h2.Zc k,h3.Zc k,h4.Zc k,h5.Zc k⟩
 | some (.G9 a to x),⟨b6,b4,b9,u,h1,h2,h3,h4,h5⟩=>exact⟨b6,b4,b9,u,h1,h2.Zc k,h3.Zc k,h4.Zc k,h5.Zc k⟩
 | some (.own a vs cur),⟨b6,b4,b7,b5,w,rb,h1,h2,h3,h4,h5,h6,h7⟩=>
  refine⟨b6,b4,b7,b5,w,rb,h1,h2.Zc k,h3.Zc k,h4.Zc k,h5.Zc k,h6.Zc k,?_⟩
  cases cur with
  | true=>exact h7
  | false=>
   obtain⟨cs,pb,pv,g1,g2,g3⟩:=h7
   exact⟨cs,pb,pv,g1.Zc k hn,g2,g3.Zc k hn⟩
structure NA where
 data:Value
 YL:Value
 Zl:Option RA
 known:Nat
 log:Value
 queue:Value
 waiting:Value
 inbox:Value
 ZT:Value
def Uw (n:Nd) (a:NA):List Value:=[.int .i64 n.me,.bool n.up,a.data,.int .i64 n.Xs,.int .i64 n.own.p.r,.int .i64 n.own.p.n,a.YL,.int .i64 n.heard.r,.int .i64 n.heard.n,RL a.Zl,.map (some a.known),a.log]++(n.store++[a.queue,a.waiting,a.inbox,a.ZT,.int .i64 n.Xj])
def Y8 (n:Nd) (a:NA):Obj:=.cells (Uw n a).toArray 135
structure Oc (cs:List Value):Prop where
 fit:Yp XY cs=true
 num:∀i,i<32→nth cs i=some (.int .i64 (ci cs i))
 yes:∀i,32≤i→i<40→nth cs i=some (.bool (cb cs i))
structure ZS (o:Ow) (h:Hp) (wb i nb:Nat) (a:NA) (n:Nd):Prop where
 data:Ti o h a.data n.data
 YL:Wc o h a.YL n.own.l
 Zl:uB o i h a.Zl n.Zl
 known:Qf o (.known i) h a.known (Ul WJ n.known)
 log:Qz o (.log i) h a.log n.log
 queue:Qz o (.queue i) h a.queue n.queue
 waiting:Qz o (.waiting i) h a.waiting n.waiting
 inbox:QJ o (.inbox i) h a.inbox n.inbox
 ZT:Uf o h wb i nb a.Zl a.ZT n.ZT
 store:Oc n.store
structure ZI (o:Ow) (h:Hp) (wb i nb:Nat) (a:NA) (n:Nd):Prop where
 ZD:QK o (.node i) h nb (Y8 n a)
 pt:ZS o h wb i nb a n
theorem OR {i:Nat} {t:Tg} (h:XA i t):t.of=some i:=by
 rcases h with rfl|rfl|rfl|rfl|⟨s,rfl⟩<;>rfl
section
variable {S:Tg→Prop} {o o':Ow} {h h':Hp} {wb i nb:Nat} {a:NA} {n:Nd}
theorem ZS.Zc (s:ZS o h wb i nb a n) (k:Kp S o h o' h') (hn:∀t,S t→t.of≠some i∨t=.node i):ZS o' h' wb i nb a n:=by
 have q:∀t:Tg,t.of=some i→t ≠ .node i→¬S t:=fun t ht Yr hs=>(hn t hs).elim (fun q=>q ht) Yr
 exact⟨s.data.Zc k,s.YL.Zc k,s.Zl.Zc k (fun t ht=>q t (OR ht) (by rcases ht with rfl|rfl|rfl|rfl|⟨z,rfl⟩<;>intro e<;>cases e)),s.known.Zc k (q _ rfl (by intro e;cases e)),s.log.Zc k (q _ rfl (by intro e;cases e)),s.queue.Zc k (q _ rfl (by intro e;cases e)),s.waiting.Zc k (q _ rfl (by intro e;cases e)),s.inbox.Zc k (q _ rfl (by intro e;cases e)),s.ZT.Zc k (q _ rfl (by intro e;cases e)),s.store⟩
theorem ZI.Zc (s:ZI o h wb i nb a n) (k:Kp S o h o' h') (hn:∀t,S t→t.of≠some i):ZI o' h' wb i nb a n:=
 ⟨s.ZD.Zc k fun q=>hn _ q rfl,s.pt.Zc k fun t ht=>.inl (hn t ht)⟩
theorem ZS.put (s:ZS o h wb i nb a n) (d:Ug o h) {x:Obj} (b:QK o (.node i) h nb x):ZI o (h.setIfInBounds nb (Y8 n a)) wb i nb a n:=
 ⟨⟨b.1,Zw b.2⟩,s.Zc ((Kp.refl d (fun t=>t=.node i)).set b.1 rfl _) fun t ht=>.inr ht⟩
theorem ZS.write (s:ZS o h wb i nb a n) (d:Ug o h) {x:Obj} (b:QK o (.node i) h nb x) {e:Option Hp} (w:e=some (h.setIfInBounds nb (Y8 n a))):∃g,e=some g∧ZI o g wb i nb a n∧Kp (fun t=>t=.node i) o h o g:=
 ⟨_,w,s.put d b,(Kp.refl d (fun t=>t=.node i)).set b.1 rfl _⟩
theorem ZS.HD (s:ZS o h wb i nb a n) (k:Kp (fun t=>t=.queue i) o h o' h') {v:Value} {l:List Cm} (hv:Qz o' (.queue i) h' v l):ZS o' h' wb i nb { a with queue:=v } { n with queue:=l }:=
 ⟨s.data.Zc k,s.YL.Zc k,s.Zl.Zc k (fun t ht=>by rcases ht with rfl|rfl|rfl|rfl|⟨z,rfl⟩<;>intro e<;>cases e),s.known.Zc k (by intro e;cases e),s.log.Zc k (by intro e;cases e),hv,s.waiting.Zc k (by intro e;cases e),s.inbox.Zc k (by intro e;cases e),s.ZT.Zc k (by intro e;cases e),s.store⟩
theorem ZS.uC (s:ZS o h wb i nb a n) (k:Kp (fun t=>t=.log i) o h o' h') {v:Value} {l:List Cm} (hv:Qz o' (.log i) h' v l):ZS o' h' wb i nb { a with log:=v } { n with log:=l }:=
 ⟨s.data.Zc k,s.YL.Zc k,s.Zl.Zc k (fun t ht=>by rcases ht with rfl|rfl|rfl|rfl|⟨z,rfl⟩<;>intro e<;>cases e),s.known.Zc k (by intro e;cases e),hv,s.queue.Zc k (by intro e;cases e),s.waiting.Zc k (by intro e;cases e),s.inbox.Zc k (by intro e;cases e),s.ZT.Zc k (by intro e;cases e),s.store⟩
theorem ZS.NZ (s:ZS o h wb i nb a n) (k:Kp (fun t=>t=.waiting i) o h o' h') {v:Value} {l:List Cm} (hv:Qz o' (.waiting i) h' v l):ZS o' h' wb i nb { a with waiting:=v } { n with waiting:=l }:=
 ⟨s.data.Zc k,s.YL.Zc k,s.Zl.Zc k (fun t ht=>by rcases ht with rfl|rfl|rfl|rfl|⟨z,rfl⟩<;>intro e<;>cases e),s.known.Zc k (by intro e;cases e),s.log.Zc k (by intro e;cases e),s.queue.Zc k (by intro e;cases e),hv,s.inbox.Zc k (by intro e;cases e),s.ZT.Zc k (by intro e;cases e),s.store⟩
theorem ZS.gU (s:ZS o h wb i nb a n) (k:Kp (fun t=>t=.inbox i) o h o' h') {v:Value} {l:List Y9} (hv:QJ o' (.inbox i) h' v l):ZS o' h' wb i nb { a with inbox:=v } { n with inbox:=l }:=
 ⟨s.data.Zc k,s.YL.Zc k,s.Zl.Zc k (fun t ht=>by rcases ht with rfl|rfl|rfl|rfl|⟨z,rfl⟩<;>intro e<;>cases e),s.known.Zc k (by intro e;cases e),s.log.Zc k (by intro e;cases e),s.queue.Zc k (by intro e;cases e),s.waiting.Zc k (by intro e;cases e),hv,s.ZT.Zc k (by intro e;cases e),s.store⟩
theorem ZS.gW (s:ZS o h wb i nb a n) (k:Kp (fun t=>t=.known i) o h o' h') {v:Nat} {l:List (Int × Cm)} (hv:Qf o' (.known i) h' v (Ul WJ l)):ZS o' h' wb i nb { a with known:=v } { n with known:=l }:=
 ⟨s.data.Zc k,s.YL.Zc k,s.Zl.Zc k (fun t ht=>by rcases ht with rfl|rfl|rfl|rfl|⟨z,rfl⟩<;>intro e<;>cases e),hv,s.log.Zc k (by intro e;cases e),s.queue.Zc k (by intro e;cases e),s.waiting.Zc k (by intro e;cases e),s.inbox.Zc k (by intro e;cases e),s.ZT.Zc k (by intro e;cases e),s.store⟩
theorem ZS.Qg (s:ZS o h wb i nb a n) (k:Kp (XA i) o h o' h') {ra ra':RA} {r':Qn} (hr:a.Zl=some ra) (ae:ra'.rb=ra.rb) (hv:YG o' i h' ra' r'):ZS o' h' wb i nb { a with Zl:=some ra' } { n with Zl:=some r' }:=by
 have q:∀t,t.of=some i→(¬ ∃u,t=u∧XA i u)→¬XA i t:=fun t _ h2 h3=>h2 ⟨t,rfl,h3⟩
 have e:∀t:Tg,(t=.known i∨t=.log i∨t=.queue i∨t=.waiting i∨t=.inbox i∨t=.Xk i)→¬XA i t:=by
  intro t ht hr
  rcases ht with rfl|rfl|rfl|rfl|rfl|rfl<;>rcases hr with e|e|e|e|⟨s,e⟩<;>cases e
 refine⟨s.data.Zc k,s.YL.Zc k,hv,s.known.Zc k (e _ (by simp)),s.log.Zc k (e _ (by simp)),s.queue.Zc k (e _ (by simp)),s.waiting.Zc k (e _ (by simp)),s.inbox.Zc k (e _ (by simp)),?_,s.store⟩
 have hp:=s.ZT.Zc k (e _ (by simp))
 show Uf o' h' wb i nb (some ra') a.ZT n.ZT
 rw[hr]at hp
 match hn:n.ZT,hp with
 | none,hp=>exact hp
 | some (.G8 _ _ _ _),hp=>exact hp
 | some (.G9 _ _ _),hp=>exact hp
 | some (.own _ _ cur),⟨b6,b4,b7,b5,w,rb,h1,h2,h3,h4,h5,h6,h7⟩=>
  refine⟨b6,b4,b7,b5,w,rb,h1,h2,h3,h4,h5,h6,?_⟩
  cases cur with
  | false=>exact h7
  | true=>
   obtain⟨c,hc,hcr⟩:=h7
   obtain rfl:=Option.some.inj hc
   exact⟨ra',rfl,ae.trans hcr⟩
end
structure WA where
 nodes:Value
 Zj:Value
 told:Value
def Y6 (bad:Nat→Int) (a:WA):List Value:=[a.nodes,a.Zj,.int .i64 0,.bool false,.bool false,.bool false,.bool false,.bool false,.slice none 0 0,.int .i64 (bad 0),.int .i64 (bad 1),.int .i64 (bad 2),.int .i64 (bad 3),.int .i64 (bad 4),a.told]
structure ZE (o:Ow) (h:Hp) (wb:Nat) (nb:Nat→Nat) (a:WA) (fl:List Y9) (bad:Nat→Int) (told:List Sd):Prop where
 ZD:QK o .world h wb (.cells (Y6 bad a).toArray 123)
 nodes:Ys o .nodes 124 1 h a.nodes 5 [Zn (nb 0),Zn (nb 1),Zn (nb 2),Zn (nb 3),Zn (nb 4)]
 Zj:QJ o .Zj h a.Zj fl
 told:Ys o .told 42 5 h a.told told.length (Zz VK told)
theorem ZE.Zc {S:Tg→Prop} {o o':Ow} {h h':Hp} {wb:Nat} {nb:Nat→Nat} {a:WA} {fl:List Y9} {bad:Nat→Int} {told:List Sd} (s:ZE o h wb nb a fl bad told) (k:Kp S o h o' h') (hn:∀t,S t→t.of≠none):ZE o' h' wb nb a fl bad told:=
 ⟨s.ZD.Zc k fun q=>hn _ q rfl,s.nodes.Zc k fun q=>hn _ q rfl,s.Zj.Zc k fun q=>hn _ q rfl,s.told.Zc k fun q=>hn _ q rfl⟩
def JK (t:Tg):Prop:=False
section
variable {S:Tg→Prop} {o o':Ow} {h h':Hp}
theorem Zs (d:Ug o h) (b:Ze h.size h h'):Kp JK o h o h':=Kp.Lu d b _
theorem ZC (k:Kp JK o h o' h'):Kp S o h o' h':=k.mono fun _ q=>q.elim
theorem ZI.still {wb i nb:Nat} {a:NA} {n:Nd} (s:ZI o h wb i nb a n) (k:Kp JK o h o' h'):ZI o' h' wb i nb a n:=s.Zc k fun _ q=>q.elim
theorem ZE.still {wb:Nat} {nb:Nat→Nat} {a:WA} {fl:List Y9} {bad:Nat→Int} {told:List Sd} (s:ZE o h wb nb a fl bad told) (k:Kp JK o h o' h'):ZE o' h' wb nb a fl bad told:=s.Zc k fun _ q=>q.elim
theorem ZW (d:Ug o h) (x:Obj):Kp JK o h o (h.push x):=(Kp.refl d _).push x
end
structure Fb (o:Ow) (h:Hp):Prop where
 tk:Tk h
 tn:En 0 niv TA h
 fk:o 1=none
 fn:o 0=none
theorem Fc {S:Tg→Prop} {o o':Ow} {h h':Hp} {g:Nat} {f:Nat→Value} {l:List Nat} (t:En g f l h) (hf:o g=none) (k:Kp S o h o' h'):En g f l h'∧o' g=none:=by
 obtain⟨h1,h2⟩:=k.Zc g t.1 fun t ht=>by rw[hf]at ht;cases ht
 refine⟨⟨Nat.lt_of_lt_of_le t.1 k.size,fun i hi=>?_⟩,by rw[h2,hf]⟩
 have:=t.2 i hi
 unfold hc at this ⊢
 rw[h1];exact this
theorem Fb.Zc {S:Tg→Prop} {o o':Ow} {h h':Hp} (t:Fb o h) (k:Kp S o h o' h'):Fb o' h':=
 ⟨(Fc t.tk t.fk k).1,(Fc t.tn t.fn k).1,(Fc t.tk t.fk k).2,(Fc t.tn t.fn k).2⟩
theorem Oc.len {cs:List Value} (s:Oc cs):cs.length=40:=by
 have:=YK s.fit
 rw[this];rfl
theorem Oc.one {cs:List Value} (s:Oc cs):cs.all Z5=true:=Ln s.fit
theorem nU (a:Option RA):Z5 (RL a)=true:=by cases a<;>rfl
section
variable {h:Hp} {nb:Nat} {n:Nd} {a:NA}
structure ZaD (h:Hp) (nb:Nat) (n:Nd) (a:NA):Prop where
 me:hc h ⟨nb,0,none⟩=some (.int .i64 n.me)
 up:hc h ⟨nb,1,none⟩=some (.bool n.up)
 tape:rd h ⟨nb,2,none⟩ 2=some [a.data,.int .i64 n.Xs]
 own:rd h ⟨nb,4,none⟩ 3=some [.int .i64 n.own.p.r,.int .i64 n.own.p.n,a.YL]
 DM:rd h ⟨nb,4,none⟩ 2=some [.int .i64 n.own.p.r,.int .i64 n.own.p.n]
 ZnY:hc h ⟨nb,4,none⟩=some (.int .i64 n.own.p.r)
 ZzQ:hc h ⟨nb,5,none⟩=some (.int .i64 n.own.p.n)
 YL:hc h ⟨nb,6,none⟩=some a.YL
 heard:rd h ⟨nb,7,none⟩ 2=some [.int .i64 n.heard.r,.int .i64 n.heard.n]
 ZaE:hc h ⟨nb,7,none⟩=some (.int .i64 n.heard.r)
 Zl:hc h ⟨nb,9,none⟩=some (RL a.Zl)
 known:hc h ⟨nb,10,none⟩=some (.map (some a.known))
 log:hc h ⟨nb,11,none⟩=some a.log
 store:rd h ⟨nb,12,none⟩ 40=some n.store
 queue:hc h ⟨nb,52,none⟩=some a.queue
 waiting:hc h ⟨nb,53,none⟩=some a.waiting
 inbox:hc h ⟨nb,54,none⟩=some a.inbox
 ZT:hc h ⟨nb,55,none⟩=some a.ZT
 Xj:hc h ⟨nb,56,none⟩=some (.int .i64 n.Xj)
theorem HE (hs:n.store.length=40):(Uw n a).length=57:=by
 unfold Uw
 rw[List.length_append,List.length_append,hs];rfl
theorem Sk (hs:n.store.length=40) (k:Nat):nth (Uw n a) (52+k)=nth [a.queue,a.waiting,a.inbox,a.ZT,.int .i64 n.Xj] k:=by
 unfold Uw
 rw[Yj,Yj,List.getElem?_append_right (by simp;omega),List.getElem?_append_right (by simp;omega)]
 congr 1
 simp
 omega
theorem Zy (H:h[nb]? = some (Y8 n a)) (hs:n.store.length=40):ZaD h nb n a:=by
 have l57:=HE (a:=a) hs
 have c:∀k,hc h ⟨nb,k,none⟩=nth (Uw n a) k:=fun k=>Zg H
 have r:∀k m,k+m≤57→rd h ⟨nb,k,none⟩ m=some (((Uw n a).drop k).take m):=fun k m hk=>Z0 H (by rw[l57];exact hk)
 refine⟨c 0,c 1,r 2 2 (by omega),r 4 3 (by omega),r 4 2 (by omega),c 4,c 5,c 6,r 7 2 (by omega),c 7,c 9,c 10,c 11,?_,(c 52).trans (Sk hs 0),(c 53).trans (Sk hs 1),(c 54).trans (Sk hs 2),(c 55).trans (Sk hs 3),(c 56).trans (Sk hs 4)⟩
 rw[r 12 40 (by omega)]
 congr 1
 unfold Uw
 rw[List.drop_append_of_le_length (by simp)]
 simp only[List.drop_succ_cons,List.drop_nil,List.drop_zero,List.nil_append]
 rw[←hs,List.take_left']
 rfl
structure ZaF (h:Hp) (nb:Nat) (n:Nd) (a:NA):Prop where
 up:∀v,Jn h ⟨nb,1,none⟩ (.bool v)=some (h.setIfInBounds nb (Y8 { n with up:=v } a))
 tape:∀d s,Z5 d=true→wr h ⟨nb,2,none⟩ [d,.int .i64 s]=some (h.setIfInBounds nb (Y8 { n with Xs:=s } { a with data:=d }))
 own:∀r k w,Z5 w=true→wr h ⟨nb,4,none⟩ [.int .i64 r,.int .i64 k,w]=some (h.setIfInBounds nb (Y8 { n with own:=⟨⟨r,k⟩,n.own.l⟩ } { a with YL:=w }))
 heard:∀r k,wr h ⟨nb,7,none⟩ [.int .i64 r,.int .i64 k]=some (h.setIfInBounds nb (Y8 { n with heard:=⟨r,k⟩ } a))
 Zl:∀b,Jn h ⟨nb,9,none⟩ (RL b)=some (h.setIfInBounds nb (Y8 n { a with Zl:=b }))
 log:∀v,Z5 v=true→Jn h ⟨nb,11,none⟩ v=some (h.setIfInBounds nb (Y8 n { a with log:=v }))
 store:∀cs:List Value,cs.length=40→cs.all Z5=true→wr h ⟨nb,12,none⟩ cs=some (h.setIfInBounds nb (Y8 { n with store:=cs } a))
 queue:∀v,Z5 v=true→Jn h ⟨nb,52,none⟩ v=some (h.setIfInBounds nb (Y8 n { a with queue:=v }))
 waiting:∀v,Z5 v=true→Jn h ⟨nb,53,none⟩ v=some (h.setIfInBounds nb (Y8 n { a with waiting:=v }))
 inbox:∀v,Z5 v=true→Jn h ⟨nb,54,none⟩ v=some (h.setIfInBounds nb (Y8 n { a with inbox:=v }))
 ZT:∀v,Z5 v=true→Jn h ⟨nb,55,none⟩ v=some (h.setIfInBounds nb (Y8 n { a with ZT:=v }))
 Xj:∀k,Jn h ⟨nb,56,none⟩ (.int .i64 k)=some (h.setIfInBounds nb (Y8 { n with Xj:=k } a))
theorem set_tail (pre mid l:List Value) (k:Nat) (v:Value) (hk:pre.length+mid.length=52):(pre++(mid++l)).set (52+k) v=pre++(mid++l.set k v):=by
 rw[List.set_append_right _ _ (by omega),List.set_append_right _ _ (by omega)]
 congr 3
 omega
theorem YO (H:h[nb]? = some (Y8 n a)) (hs:n.store.length=40):ZaF h nb n a:=by
 have l57:=HE (a:=a) hs
 have w1:∀(k:Nat) (v:Value) (n':Nd) (a':NA),k<57→Z5 v=true→(Uw n a).set k v=Uw n' a'→Jn h ⟨nb,k,none⟩ v=some (h.setIfInBounds nb (Y8 n' a')):=fun k v n' a' hk hv he=>by
  rw[Yq H,if_pos ⟨by rw[l57];exact hk,hv⟩,he];rfl
 have w:∀(k:Nat) (vs:List Value) (n':Nd) (a':NA),k+vs.length≤57→vs.all Z5=true→Yl (Uw n a) k vs=Uw n' a'→wr h ⟨nb,k,none⟩ vs=some (h.setIfInBounds nb (Y8 n' a')):=fun k vs n' a' hk hv he=>by
  rw[ZP H,if_pos ⟨by rw[l57];exact hk,hv⟩,he];rfl
 refine⟨fun v=>w1 _ _ _ _ (by omega) rfl rfl,fun d s hd=>w _ _ _ _ (by simp) (by rw[List.all_cons,hd];rfl) rfl,fun r k v hv=>w _ _ _ _ (by simp) (by simp only[List.all_cons,hv];rfl) rfl,fun r k=>w _ _ _ _ (by simp) (by simp[Z5]) rfl,fun b=>w1 _ _ _ _ (by omega) (nU b) rfl,fun v hv=>w1 _ _ _ _ (by omega) hv rfl,fun cs hl Xd=>w _ _ _ _ (by omega) Xd ?_,
  fun v hv=>w1 _ _ _ _ (by omega) hv ?_,fun v hv=>w1 _ _ _ _ (by omega) hv ?_,fun v hv=>w1 _ _ _ _ (by omega) hv ?_,fun v hv=>w1 _ _ _ _ (by omega) hv ?_,fun k=>w1 _ _ _ _ (by omega) rfl ?_⟩
 ·unfold Uw
  exact Wt rfl (by rw[hl,hs])
 all_goals
  unfold Uw
  first
   | exact set_tail _ _ _ 0 _ (by rw[hs];rfl)
   | exact set_tail _ _ _ 1 _ (by rw[hs];rfl)
   | exact set_tail _ _ _ 2 _ (by rw[hs];rfl)
   | exact set_tail _ _ _ 3 _ (by rw[hs];rfl)
   | exact set_tail _ _ _ 4 _ (by rw[hs];rfl)
end
section
variable {h:Hp} {wb:Nat} {bad:Nat→Int} {a:WA}
structure uD (h:Hp) (wb:Nat) (bad:Nat→Int) (a:WA):Prop where
 nodes:hc h ⟨wb,0,none⟩=some a.nodes
 Zj:hc h ⟨wb,1,none⟩=some a.Zj
 told:hc h ⟨wb,14,none⟩=some a.told
 out:rd h ⟨wb,2,none⟩ 13=some [.int .i64 0,.bool false,.bool false,.bool false,.bool false,.bool false,.slice none 0 0,.int .i64 (bad 0),.int .i64 (bad 1),.int .i64 (bad 2),.int .i64 (bad 3),.int .i64 (bad 4),a.told]
 Fe:∀v,Z5 v=true→Jn h ⟨wb,1,none⟩ v=some (h.setIfInBounds wb (.cells (Y6 bad { a with Zj:=v }).toArray 123))
 xP:∀v,Z5 v=true→Jn h ⟨wb,14,none⟩ v=some (h.setIfInBounds wb (.cells (Y6 bad { a with told:=v }).toArray 123))
 ZaG:∀v,Z5 v=true→Jn h ⟨wb,0,none⟩ v=some (h.setIfInBounds wb (.cells (Y6 bad { a with nodes:=v }).toArray 123))
theorem YT (H:h[wb]? = some (.cells (Y6 bad a).toArray 123)):uD h wb bad a:=by
 refine⟨Zg H,Zg H,Zg H,Z0 H (by simp[Y6]),fun v hv=>?_,fun v hv=>?_,fun v hv=>?_⟩
 all_goals
  rw[Yq H,if_pos ⟨by simp[Y6],hv⟩]
  rfl
end
theorem Im.isSlice {o:Ow} {n:Nat} {h:Hp} {v:Value} {m:Nat} {cs:List Value} (s:Im o n h v m cs):∃p c,v=.slice p m c:=by
 obtain⟨p,c,h,_⟩:=s.fits;exact⟨p,c,h⟩
theorem JV {α:Type} (enc:α→List Value) (x:α):Zz enc [x]=enc x:=by simp[Zz]
def cY (t:Tg):Prop:=t=.world∨t=.Zj
theorem UI (T:World) (h:Hp) (o:Ow) (wb nb:Nat) (Z7:Nat→Nat) (me:Nat) (YC:WA) (fl:List Y9) (bad:Nat→Int) (told:List Sd) (to:Int) (l:Y9) (w:Value) (d:Ug o h)
  (W:ZE o h wb Z7 YC fl bad told) (qG:hc h ⟨nb,0,none⟩=some (.int .i64 me)) (Vf:nb<h.size) (iv:Wc o h w l.vs) (Ym:fl.length≤1000000000000) :
  Zd Tryz.prog T 113 #[Zn wb,Zn nb,.int .i64 to,.agg (YS l w).toArray] h fun v' h'=>∃o' Xn,Kp cY o h o' h'∧(∀b,b<h.size→o' b=o b)∧ZE o' h' wb Z7 Xn (fl++[⟨l.kind,me,to,l.b,l.v,l.vs⟩]) bad told:=by
 obtain⟨p,c,hw⟩:=iv.isSlice
 have Xd:Z5 w=true:=by rw[hw];rfl
 have Ff:=Za W.ZD.2
 have R0:=YT W.ZD.2
 refine Zd.Zi (args:=[_,_,_,_]) Tryz.func113 rfl rfl rfl rfl ?_
 unfold Zn YS
 have e1:nb≠h.size:=by omega
 have e2:wb≠h.size:=by omega
 simp -implicitDefEqProofs only[go_sem,↓reduceIte,Sv,e1,qG]
 refine VS.z (h.size+1) [7,10] (.p 0 (.p 1 (.p 2 (.p 3 (.q 4 (.q 5 (.s 6 (.w 7 (.p 8 (.p 9 (.w 10 .nil))))))))))) mixed (by kernel_rfl) ?_
 simp -implicitDefEqProofs only[go_sem,↓reduceIte,Sv,bE,e1,e2,qG,R0.Zj,Ff]
 obtain⟨h1,YF⟩:=Zu (h.push (.cells (YS ⟨l.kind,me,to,l.b,l.v,l.vs⟩ w).toArray 163):Hp)
 have s1:h1.size=h.size+1:=by rw[YF];simp
 obtain⟨h2,Wb⟩:=Zu (h1.push (.cells (YS ⟨l.kind,me,to,l.b,l.v,l.vs⟩ w).toArray 163):Hp)
 have ee:((h.push (.cells (YS ⟨l.kind,me,to,l.b,l.v,l.vs⟩ w).toArray 163)).push (.cells (YS ⟨l.kind,me,to,l.b,l.v,l.vs⟩ w).toArray 163))=h2:=by rw[Wb,YF]
 unfold YS at ee
 simp only at ee
 refine⟨Ze.push (by simp) _,?_⟩
 rw[ee]
 have k2:Kp (fun _=>False) o h o h2:=by rw[Wb,YF];exact ((Kp.refl d _).push _).push _
 have W2:=W.Zc k2 (fun _ q=>q.elim)
 have jw:=iv.Zc k2
 obtain⟨xs,Qm,Rz,As⟩:=W2.Zj
 have Mp:xs.length=fl.length:=by rw[←Qm,List.length_map]
 have src:Sl 14 h2 (.slice (some ⟨h.size+1,0,none⟩) 1 1) 1 (YS ⟨l.kind,me,to,l.b,l.v,l.vs⟩ w):=by
  rw[Wb,←s1];exact Sl.made (by simp[YS]) 1
 refine XW (E:=163) (n:=14) (bytes:=128) (k:=1) Gy Tryz.underlying121 lT bU rfl xe Rz k2.ZV src (by rw[YS,List.all_eq_true];intro x hx;simp at hx;rcases hx with rfl|rfl|rfl|rfl|rfl|rfl|rfl|rfl|rfl|rfl|rfl|rfl|rfl|rfl<;>first|rfl|exact Xd) (by omega) (by omega) ?_
 intro v' o3 h3 w3 k3 q3
 have b3:=W2.ZD.Zc k3 (by intro q;cases q)
 have R3:=YT b3.2
 obtain⟨p3,c3,rfl,_⟩:=w3.isSlice
 have hw3:=Za b3.2
 have e3:=R3.Fe (.slice p3 (xs.length+1) c3) rfl
 simp -implicitDefEqProofs only[go_sem,↓reduceIte,e3]
 have k4:Kp cY o h o3 h3:=(k2.mono fun _ q=>q.elim).trans (k3.mono fun u q=>.inr q)
 have k5:=k4.set b3.1 (.inl rfl) (.cells (Y6 bad { YC with Zj:=.slice p3 (xs.length+1) c3 }).toArray 123)
 have kk:Kp (fun u=>u=.world) o3 h3 o3 (h3.setIfInBounds wb (.cells (Y6 bad { YC with Zj:=.slice p3 (xs.length+1) c3 }).toArray 123)):=(Kp.refl k3.ZV (fun u=>u=.world)).set b3.1 rfl _
 refine⟨o3,{ YC with Zj:=.slice p3 (xs.length+1) c3 },k5,fun b hb=>q3 b (by have:=k2.size;omega),⟨b3.1,Zw b3.2⟩,(W2.nodes.Zc k3 (by intro q;cases q)).Zc kk (by intro q;cases q),⟨xs++[(⟨l.kind,me,to,l.b,l.v,l.vs⟩,w)],?_,?_,fun x hx=>?_⟩,(W2.told.Zc k3 (by intro q;cases q)).Zc kk (by intro q;cases q)⟩
 ·rw[List.map_append,Qm];rfl
 ·have:=w3.Zc kk (by intro q;cases q)
  rw[Ye,JV,List.length_append]
  exact this
 ·rcases List.mem_append.1 hx with hx|hx
  ·exact ((As x hx).Zc k3).Zc kk
  ·have:x=(⟨l.kind,me,to,l.b,l.v,l.vs⟩,w):=by simpa using hx
   subst this
   exact (jw.Zc k3).Zc kk
@[go_sem] theorem Zn0 (x:Cm):Yp [some .i64,some .i64,some .i64,some .i64,some .i64] x.C=true:=rfl
@[go_sem] theorem Zn1 (x y:Cm):leq x.C y.C=decide (x=y):=by
 obtain⟨a,b,c,d,e⟩:=x
 obtain⟨a',b',c',d',e'⟩:=y
 unfold J8.C Qi
 rw[Bool.eq_iff_iff]
 simp[leq,ceq,J8.mk.injEq]
@[go_sem] theorem Od (x:Cm):x.C.length=5:=rfl
@[go_sem] theorem nV (x:Cm):x.C.all Z5=true:=rfl
@[go_sem] theorem Zjb (x:Cm):Yl [.int .i64 0,.int .i64 0,.int .i64 0,.int .i64 0,.int .i64 0] 0 x.C=x.C:=rfl
theorem XP {h:Hp} {v:Value} {l:List Cm} (s:Ts J8.C 5 h v l):∃p c,v=.slice p l.length c∧(l≠[]→∃b o,p=some ⟨b,o,none⟩∧b<h.size∧∀i (hi:i<l.length),rd h ⟨b,o+i*5,none⟩ 5=some (l[i]).C):=by
 obtain⟨p,c,hv,hh⟩:=s.open Od (by decide)
 refine⟨p,c,hv,fun Yr=>?_⟩
 obtain⟨b,o,h1,h2,h3⟩:=hh Yr
 exact⟨b,o,h1,h2,fun i hi=>(h3 i hi).rd (by simp[J8.C,Qi]) rfl⟩
def VL (l:List Cm) (x:Cm):Int:=if x∈l then (l.idxOf x:Int) else -1
theorem nW {l:List Cm} {x:Cm} {i:Nat} (hi:i<l.length) (he:l[i]=x) (hn:∀j (hj:j<l.length),j<i→l[j]≠x):l.idxOf x=i:=by
 have hx:x∈l:=he▸List.getElem_mem hi
 have h1:l.idxOf x<l.length:=List.idxOf_lt_length_of_mem hx
 have h2:l[l.idxOf x]=x:=List.getElem_idxOf h1
 rcases Nat.lt_trichotomy (l.idxOf x) i with h|h|h
 ·exact absurd h2 (hn _ h1 h)
 ·exact h
 ·have:=List.not_of_lt_findIdx (p:=(· == x)) (xs:=l) (i:=i) h
  simp[he]at this
theorem cZ {l:List Cm} {x:Cm} {i:Nat} (hi:i<l.length) (he:l[i]=x) (hn:∀j (hj:j<l.length),j<i→l[j]≠x):VL l x=i:=by
 unfold VL
 rw[if_pos (he▸List.getElem_mem hi),nW hi he hn]
theorem HF {l:List Cm} {x:Cm} (hn:∀j (hj:j<l.length),l[j]≠x):VL l x = -1:=by
 unfold VL
 rw[if_neg fun hm=>by obtain⟨j,hj,he⟩:=List.getElem_of_mem hm;exact hn j hj he]
theorem Oe (l:List Cm) (x:Cm):0≤VL l x↔x∈l:=by
 unfold VL
 split
 ·rename_i h;exact⟨fun _=>h,fun _=>by omega⟩
 ·rename_i h;exact⟨fun q=>by omega,fun q=>absurd q h⟩
theorem Ks (T:World) (h:Hp) (v:Value) (l:List Cm) (x:Cm) (s:Ts J8.C 5 h v l) (hl:l.length≤4611686018427387904) :
  Zd Tryz.prog T 91 #[v,WJ x] h fun v' h'=>v'=.int .i64 (VL l x)∧Ze h.size h h':=by
 obtain⟨p,c,rfl,Yx⟩:=XP s
 refine Zd.Zi (args:=[_,_]) Tryz.func91 rfl rfl rfl rfl ?_
 unfold WJ
 simp -implicitDefEqProofs only[go_sem,↓reduceIte]
 obtain⟨h1,YF⟩:=Zu (h.push (.cells x.C.toArray 47):Hp)
 have b1:Ze h.size h h1:=by rw[YF];exact Ze.push (Nat.le_refl _) _
 have x1:h1[h.size]? = some (.cells x.C.toArray 47):=by rw[YF];exact Zb
 rw[←YF]
 clear YF
 refine VS.ZU (fun F g=>g=h1∧F 0=.slice p l.length c∧F 3=.pointer (some ⟨h.size,0,none⟩)∧F 7=.int .i64 l.length∧∃i:Nat,i≤l.length∧F 8=.int .i64 i∧∀j (hj:j<l.length),j<i→l[j]≠x)
  (fun F _=>l.length-(vi (F 8)).toNat) rfl ⟨rfl,rfl,rfl,rfl,0,by omega,rfl,fun j hj q=>by omega⟩ ?_
 rintro F g ⟨rfl,f0,f3,f7,i,hi,f8,YH⟩
 by_cases ZA:i<l.length
 ·have ZH:(i:Int)<l.length:=by omega
  obtain⟨bb,oo,rfl,Ut,LU⟩:=Yx (by intro e;rw[e]at ZA;simp at ZA)
  have r1:rd g ⟨bb,oo+i*5,none⟩ 5=some (l[i]).C:=by rw[XB b1 (by exact Ut)];exact LU i ZA
  have r0:rd g ⟨h.size,0,none⟩ 5=some x.C:=Zo x1 rfl
  simp -implicitDefEqProofs only[go_sem,↓reduceIte,f0,f3,f7,f8,ZH]
  refine VS.q mixed (by kernel_rfl) ?_
  simp -implicitDefEqProofs only[go_sem,↓reduceIte,f0,f3,f7,f8,ZH,r1,r0]
  by_cases q:l[i]=x
  ·have e:=cZ ZA q YH
   rw[q]
   simp -implicitDefEqProofs only[go_sem,↓reduceIte,e,b1]
  ·have q':¬x=l[i]:=fun e=>q e.symm
   simp -implicitDefEqProofs only[go_sem,↓reduceIte,q',f0,f3,f7,f8]
   refine⟨⟨rfl,f0,f3,f7,i+1,ZA,rfl,fun j hj Wn=>?_⟩,?_⟩
   ·by_cases e:j=i
    ·subst e;exact q
    ·exact YH j hj (by omega)
   ·simp only[vi,Zh,↓reduceIte,f8];omega
 ·have YE:¬(i:Int)<l.length:=by omega
  have e:=HF (l:=l) (x:=x) fun j hj=>YH j hj (by omega)
  simp -implicitDefEqProofs only[go_sem,↓reduceIte,f7,f8,YE,e,b1]
theorem Vb (T:World) (h:Hp) (v:Value) (l:List Cm) (x:Cm) (s:Ts J8.C 5 h v l) (hl:l.length≤4611686018427387904) :
  Zd Tryz.prog T 93 #[v,WJ x] h fun v' h'=>v'=.bool (decide (x∈l))∧Ze h.size h h':=by
 obtain⟨p,c,rfl,Yx⟩:=XP s
 refine Zd.Zi (args:=[_,_]) Tryz.func93 rfl rfl rfl rfl ?_
 unfold WJ
 simp -implicitDefEqProofs only[go_sem,↓reduceIte]
 refine (Ks T _ _ l x (s.Z4 ((Ze.refl _ _).add _)) hl).use ?_
 rintro _ h2 ⟨rfl,b2⟩
 have b:Ze h.size h h2:=((Ze.refl _ _).add _).trans (b2.mono (by simp))
 simp -implicitDefEqProofs only[go_sem,↓reduceIte,Oe,b]
theorem HG (T:World) (h:Hp) (b:Nat) (x y:Cm) (hb:h[b]? = some (.cells x.C.toArray 47)) :
  Zd Tryz.prog T 146 #[WJ y,Zn b] h fun v' h'=>v'=.bool (decide (y=x))∧Ze h.size h h':=by
 have ZA:=Za hb
 refine Zd.Zi (args:=[_,_]) Tryz.func146 rfl rfl rfl rfl ?_
 unfold WJ Zn
 have Yr:b≠h.size:=by omega
 have r0:rd (h.push (.cells y.C.toArray 47)) ⟨h.size,0,none⟩ 5=some y.C:=Zo Zb rfl
 have r1:rd (h.push (.cells y.C.toArray 47)) ⟨b,0,none⟩ 5=some x.C:=Zo (by rw[Zq ZA];exact hb) rfl
 simp -implicitDefEqProofs only[go_sem,↓reduceIte,r0,r1]
def N0 (b:Nat):Value:=Wj 146 [b]
theorem Kt (T:World) (h:Hp) (v:Value) (l:List Cm) (b:Nat) (x:Cm) (s:Ts J8.C 5 h v l) (hb:h[b]? = some (.cells x.C.toArray 47)) (hl:l.length≤4611686018427387904) :
  Zd Tryz.prog T 148 #[v,N0 b] h fun v' h'=>v'=.int .i64 (VL l x)∧Ze h.size h h':=by
 obtain⟨p,c,rfl,Yx⟩:=XP s
 refine Zd.Zi (args:=[_,_]) Tryz.func148 rfl rfl rfl rfl ?_
 have ZA:=Za hb
 unfold N0 Wj
 simp -implicitDefEqProofs only[go_sem,↓reduceIte]
 refine VS.ZU (fun F g=>Ze h.size h g∧F 0=.slice p l.length c∧F 1=N0 b∧F 7=.int .i64 l.length∧∃i:Nat,i≤l.length∧F 8=.int .i64 i∧∀j (hj:j<l.length),j<i→l[j]≠x)
  (fun F _=>l.length-(vi (F 8)).toNat) rfl ⟨Ze.refl _ _,rfl,rfl,rfl,0,by omega,rfl,fun j hj q=>by omega⟩ ?_
 rintro F g ⟨hg,f0,f1,f7,i,hi,f8,YH⟩
 by_cases ZA:i<l.length
 ·have ZH:(i:Int)<l.length:=by omega
  obtain⟨bb,oo,rfl,Ut,LU⟩:=Yx (by intro e;rw[e]at ZA;simp at ZA)
  have r1:rd g ⟨bb,oo+i*5,none⟩ 5=some (l[i]).C:=by rw[XB hg (by exact Ut)];exact LU i ZA
  unfold N0 Wj at f1
  simp only[List.map]at f1
  simp -implicitDefEqProofs only[go_sem,↓reduceIte,f0,f1,f7,f8,ZH,r1]
  refine (HG T g b x l[i] (hg.get (by omega) hb)).use ?_
  rintro _ g1 ⟨rfl,b1⟩
  have Om:Ze h.size h g1:=hg.trans (b1.mono hg.size)
  by_cases q:l[i]=x
  ·have e:=cZ ZA q YH
   simp -implicitDefEqProofs only[go_sem,↓reduceIte,q,f8,e,Om]
  ·simp -implicitDefEqProofs only[go_sem,↓reduceIte,q,f0,f1,f7,f8]
   refine⟨⟨Om,f0,f1,f7,i+1,ZA,rfl,fun j hj Wn=>?_⟩,?_⟩
   ·by_cases e:j=i
    ·subst e;exact q
    ·exact YH j hj (by omega)
   ·simp only[vi,Zh,↓reduceIte,f8];omega
 ·have YE:¬(i:Int)<l.length:=by omega
  have e:=HF (l:=l) (x:=x) fun j hj=>YH j hj (by omega)
  simp -implicitDefEqProofs only[go_sem,↓reduceIte,f7,f8,YE,e,hg]
theorem DN (T:World) (h:Hp) (o:Ow) (t:Tg) (v:Value) (m i:Nat) (cs:List Value) (s:Ys o t 47 5 h v m cs) (d:Ug o h) (Xd:cs.all Z5=true) (hi:i<m) (hm:m≤4611686018427387904) :
  Zd Tryz.prog T 149 #[v,.int .i64 i,.int .i64 ((i:Int)+1)] h fun v' h'=>Ys o t 47 5 h' v' (m-1) (cs.take (i*5)++cs.drop ((i+1)*5))∧Kp (fun u=>u=t) o h o h':=by
 rcases s with⟨⟨p,rfl⟩,rfl,rfl⟩|⟨b,off,cap,pre,spare,h1,rfl,h3,h4,h5,h6,h7⟩
 ·omega
 refine Zd.Zi (args:=[_,_,_]) Tryz.func149 rfl rfl rfl rfl ?_
 have e1:(i:Int)≤m:=by omega
 have e2:(i:Int)+1≤m:=by omega
 have e3:(m:Int)≤cap:=by omega
 have e4:(i:Int)≠i+1:=by omega
 have e5:((i:Int)+1).toNat=i+1:=by omega
 have e6:(0:Int)≤i+1:=by omega
 have e7:(i:Int)≤i+1:=by omega
 have e8:(i:Int)≤cap:=by omega
 have c0:cap≠0:=by omega
 simp -implicitDefEqProofs only[go_sem,↓reduceIte,e1,e2,e3,e4,e5,e6,e7,e8]
 refine VS.z (h.size) [6] (.p 0 (.p 1 (.p 2 (.p 3 (.p 4 (.p 5 (.w 6 (.p 7 .nil)))))))) mixed (by kernel_rfl) ?_
 simp -implicitDefEqProofs only[go_sem,↓reduceIte,e1,e2,e3,e4,e5,e6,e7,e8,c0]
 have hin:i*5≤m*5:=Nat.mul_le_mul_right _ (by omega)
 have Zn2:(i+1)*5≤m*5:=Nat.mul_le_mul_right _ (by omega)
 have bF:m*5≤cap*5:=Nat.mul_le_mul_right _ h7
 have ZD:h[b]? = some (.cells (pre++(cs.take (i*5)++(cs.drop (i*5)++spare))).toArray 47 (0,0)):=by
  rw[←List.append_assoc (List.take _ _),List.take_append_drop];exact h3
 have src:Sl 5 h (.slice (if cap=i+1 then some ⟨b,off,none⟩ else some ⟨b,off+(i+1)*5,none⟩) (m-(i+1)) (cap-(i+1))) (m-(i+1)) (cs.drop ((i+1)*5)):=by
  have:=(Ys.tail (k:=i+1) (.inr ⟨b,off,cap,pre,spare,h1,rfl,h3,h4,h5,h6,h7⟩:Ys o t 47 5 h (.slice (some ⟨b,off,none⟩) m cap) m cs) (by omega)).sl
  rw[Option.map_some,YQ]at this
  exact this
 have nl:(cs.drop ((i+1)*5)).length=(m-(i+1))*5:=by rw[List.length_drop,h5,Nat.sub_mul]
 refine Lv (E:=47) (n:=5) (m:=i) (k:=m-(i+1)) (cs:=cs.take (i*5)) Ev Tryz.underlying37 zu lQ ZD h4.symm (by rw[List.length_take];omega) src (List.all_eq_true.2 fun x hx=>List.all_eq_true.1 Xd x (List.mem_of_mem_drop hx)) (by omega) (by rw[List.length_append,List.length_drop,h5,←Nat.sub_mul];have:(m-(i+1))*5≤(m-i)*5:=Nat.mul_le_mul_right _ (by omega);omega) ?_
 obtain⟨g,hg⟩:=Zu (h.setIfInBounds b (.cells (pre++((cs.take (i*5)++cs.drop ((i+1)*5))++(cs.drop (i*5)++spare).drop ((m-(i+1))*5))).toArray 47 (0,0)):Hp)
 rw[←hg]
 have kg:Kp (fun u=>u=t) o h o g:=by rw[hg];exact (Kp.refl d (fun u=>u=t)).set h1 rfl _
 have gb:=Zw (o:=.cells (pre++((cs.take (i*5)++cs.drop ((i+1)*5))++(cs.drop (i*5)++spare).drop ((m-(i+1))*5))).toArray 47 (0,0)) h3
 rw[←hg]at gb
 have e9:i+(m-(i+1))=m-1:=by omega
 have f1:((m-1:Nat):Int)≤m:=by omega
 have f2:(0:Int)≤((m-1:Nat):Int):=by omega
 have f3:cap≠m-1:=by omega
 have f4:(((m-1:Nat):Int)).toNat=m-1:=by omega
 have f5:(0:Int)≤m:=by omega
 have f6:((m-1:Nat):Int)≤cap:=by omega
 rw[e9]
 simp -implicitDefEqProofs only[go_sem,↓reduceIte,e3,f1,f2,f3,f4,f5,f6]
 have tl:((cs.drop (i*5)++spare).drop ((m-(i+1))*5)).length=5+spare.length:=by
  rw[List.length_drop,List.length_append,List.length_drop,h5]
  have:(m-(i+1))*5+5=m*5-i*5:=by rw[←Nat.sub_mul,←Nat.succ_mul];congr 1;omega
  omega
 obtain⟨tail,ht⟩:=Zu ((cs.drop (i*5)++spare).drop ((m-(i+1))*5))
 rw[←ht]at gb tl
 obtain⟨body,Ak⟩:=Zu (cs.take (i*5)++cs.drop ((i+1)*5))
 have bl:body.length=(m-1)*5:=by
  rw[Ak,List.length_append,List.length_take,nl,h5,Nat.min_eq_left hin,←Nat.add_mul];congr 1
 rw[←Ak]at gb ⊢
 have xQ:g[b]? = some (.cells ((pre++body)++(tail.take 5++tail.drop 5)).toArray 47 (0,0)):=by
  rw[List.take_append_drop,List.append_assoc];exact gb
 have e10:m-(m-1)=1:=by omega
 rw[e10]
 refine OC (E:=47) (n:=5) (k:=1) Ev lQ rfl rfl xQ (by rw[List.length_append,h4,bl]) (by rw[List.length_take];omega) ?_
 intro new AW
 simp -implicitDefEqProofs only[go_sem,↓reduceIte]
 have kk:=kg.set h1 rfl (.cells ((pre++body)++(new++tail.drop 5)).toArray 47 (0,0))
 refine⟨.inr ⟨b,off,cap,pre,new++tail.drop 5,h1,rfl,?_,h4,bl,?_,by omega⟩,kk⟩
 ·rw[Zw xQ,List.append_assoc]
 ·rw[List.length_append,AW,List.length_take,List.length_drop,tl,h6]
  have:(cap-(m-1))*5=(cap-m)*5+5:=by rw[←Nat.succ_mul];congr 1;omega
  omega
theorem DO (T:World) (h:Hp) (o:Ow) (t:Tg) (v:Value) (m i:Nat) (cs:List Value) (s:Ys o t 163 14 h v m cs) (d:Ug o h) (Xd:cs.all Z5=true) (hi:i<m) (hm:m≤4611686018427387904) :
  Zd Tryz.prog T 97 #[v,.int .i64 i,.int .i64 ((i:Int)+1)] h fun v' h'=>Ys o t 163 14 h' v' (m-1) (cs.take (i*14)++cs.drop ((i+1)*14))∧Kp (fun u=>u=t) o h o h':=by
 rcases s with⟨⟨p,rfl⟩,rfl,rfl⟩|⟨b,off,cap,pre,spare,h1,rfl,h3,h4,h5,h6,h7⟩
 ·omega
 refine Zd.Zi (args:=[_,_,_]) Tryz.func97 rfl rfl rfl rfl ?_
 have e1:(i:Int)≤m:=by omega
 have e2:(i:Int)+1≤m:=by omega
 have e3:(m:Int)≤cap:=by omega
 have e4:(i:Int)≠i+1:=by omega
 have e5:((i:Int)+1).toNat=i+1:=by omega
 have e6:(0:Int)≤i+1:=by omega
 have e7:(i:Int)≤i+1:=by omega
 have e8:(i:Int)≤cap:=by omega
 have c0:cap≠0:=by omega
 simp -implicitDefEqProofs only[go_sem,↓reduceIte,e1,e2,e3,e4,e5,e6,e7,e8]
 refine VS.z (h.size) [6] (.p 0 (.p 1 (.p 2 (.p 3 (.p 4 (.p 5 (.w 6 (.p 7 .nil)))))))) mixed (by kernel_rfl) ?_
 simp -implicitDefEqProofs only[go_sem,↓reduceIte,e1,e2,e3,e4,e5,e6,e7,e8,c0]
 have hin:i*14≤m*14:=Nat.mul_le_mul_right _ (by omega)
 have Zn2:(i+1)*14≤m*14:=Nat.mul_le_mul_right _ (by omega)
 have bF:m*14≤cap*14:=Nat.mul_le_mul_right _ h7
 have ZD:h[b]? = some (.cells (pre++(cs.take (i*14)++(cs.drop (i*14)++spare))).toArray 163 (0,0)):=by
  rw[←List.append_assoc (List.take _ _),List.take_append_drop];exact h3
 have src:Sl 14 h (.slice (if cap=i+1 then some ⟨b,off,none⟩ else some ⟨b,off+(i+1)*14,none⟩) (m-(i+1)) (cap-(i+1))) (m-(i+1)) (cs.drop ((i+1)*14)):=by
  have:=(Ys.tail (k:=i+1) (.inr ⟨b,off,cap,pre,spare,h1,rfl,h3,h4,h5,h6,h7⟩:Ys o t 163 14 h (.slice (some ⟨b,off,none⟩) m cap) m cs) (by omega)).sl
  rw[Option.map_some,YQ]at this
  exact this
 have nl:(cs.drop ((i+1)*14)).length=(m-(i+1))*14:=by rw[List.length_drop,h5,Nat.sub_mul]
 refine Lv (E:=163) (n:=14) (m:=i) (k:=m-(i+1)) (cs:=cs.take (i*14)) Gy Tryz.underlying121 lT bU ZD h4.symm (by rw[List.length_take];omega) src (List.all_eq_true.2 fun x hx=>List.all_eq_true.1 Xd x (List.mem_of_mem_drop hx)) (by omega) (by rw[List.length_append,List.length_drop,h5,←Nat.sub_mul];have:(m-(i+1))*14≤(m-i)*14:=Nat.mul_le_mul_right _ (by omega);omega) ?_
 obtain⟨g,hg⟩:=Zu (h.setIfInBounds b (.cells (pre++((cs.take (i*14)++cs.drop ((i+1)*14))++(cs.drop (i*14)++spare).drop ((m-(i+1))*14))).toArray 163 (0,0)):Hp)
 rw[←hg]
 have kg:Kp (fun u=>u=t) o h o g:=by rw[hg];exact (Kp.refl d (fun u=>u=t)).set h1 rfl _
 have gb:=Zw (o:=.cells (pre++((cs.take (i*14)++cs.drop ((i+1)*14))++(cs.drop (i*14)++spare).drop ((m-(i+1))*14))).toArray 163 (0,0)) h3
 rw[←hg]at gb
 have e9:i+(m-(i+1))=m-1:=by omega
 have f1:((m-1:Nat):Int)≤m:=by omega
 have f2:(0:Int)≤((m-1:Nat):Int):=by omega
 have f3:cap≠m-1:=by omega
 have f4:(((m-1:Nat):Int)).toNat=m-1:=by omega
 have f5:(0:Int)≤m:=by omega
 have f6:((m-1:Nat):Int)≤cap:=by omega
 rw[e9]
 simp -implicitDefEqProofs only[go_sem,↓reduceIte,e3,f1,f2,f3,f4,f5,f6]
 have tl:((cs.drop (i*14)++spare).drop ((m-(i+1))*14)).length=14+spare.length:=by
  rw[List.length_drop,List.length_append,List.length_drop,h5]
  have:(m-(i+1))*14+14=m*14-i*14:=by rw[←Nat.sub_mul,←Nat.succ_mul];congr 1;omega
  omega
 obtain⟨tail,ht⟩:=Zu ((cs.drop (i*14)++spare).drop ((m-(i+1))*14))
 rw[←ht]at gb tl
 obtain⟨body,Ak⟩:=Zu (cs.take (i*14)++cs.drop ((i+1)*14))
 have bl:body.length=(m-1)*14:=by
  rw[Ak,List.length_append,List.length_take,nl,h5,Nat.min_eq_left hin,←Nat.add_mul];congr 1
 rw[←Ak]at gb ⊢
 have xQ:g[b]? = some (.cells ((pre++body)++(tail.take 14++tail.drop 14)).toArray 163 (0,0)):=by
  rw[List.take_append_drop,List.append_assoc];exact gb
 have e10:m-(m-1)=1:=by omega
 rw[e10]
 refine OC (E:=163) (n:=14) (k:=1) Gy bU rfl rfl xQ (by rw[List.length_append,h4,bl]) (by rw[List.length_take];omega) ?_
 intro new AW
 simp -implicitDefEqProofs only[go_sem,↓reduceIte]
 have kk:=kg.set h1 rfl (.cells ((pre++body)++(new++tail.drop 14)).toArray 163 (0,0))
 refine⟨.inr ⟨b,off,cap,pre,new++tail.drop 14,h1,rfl,?_,h4,bl,?_,by omega⟩,kk⟩
 ·rw[Zw xQ,List.append_assoc]
 ·rw[List.length_append,AW,List.length_take,List.length_drop,tl,h6]
  have:(cap-(m-1))*14=(cap-m)*14+14:=by rw[←Nat.succ_mul];congr 1;omega
  omega
section
variable {α:Type} {enc:α→List Value} {n:Nat}
theorem VM (QN:∀x,(enc x).length=n) (l:List α) (i:Nat) (hi:i≤l.length):(Zz enc l).take (i*n)=Zz enc (l.take i):=by
 have h1:(Zz enc (l.take i)).length=i*n:=by rw[Jw QN,List.length_take,Nat.min_eq_left hi]
 have h2:Zz enc l=Zz enc (l.take i)++Zz enc (l.drop i):=by rw[←Ye,List.take_append_drop]
 rw[h2,←h1,List.take_left]
theorem VN (QN:∀x,(enc x).length=n) (l:List α) (i:Nat) (hi:i≤l.length):(Zz enc l).drop (i*n)=Zz enc (l.drop i):=by
 have h1:(Zz enc (l.take i)).length=i*n:=by rw[Jw QN,List.length_take,Nat.min_eq_left hi]
 have h2:Zz enc l=Zz enc (l.take i)++Zz enc (l.drop i):=by rw[←Ye,List.take_append_drop]
 rw[h2,←h1,List.drop_left]
theorem nX (QN:∀x,(enc x).length=n) (l:List α) (i:Nat) (hi:i<l.length) (y:α):Zz enc (l.set i y)=(Zz enc l).take (i*n)++(enc y++(Zz enc l).drop ((i+1)*n)):=by
 rw[List.set_eq_take_append_cons_drop,if_pos hi,Ye,VM QN _ _ (by omega),VN QN _ _ (by omega)]
 rfl
end
theorem uE (l:List Cm):(Zz J8.C l).all Z5=true:=by
 induction l with
 | nil=>rfl
 | cons x l ih=>rw[Zz,List.all_append,ih];rfl
theorem Vc {l:List Cm} {j:Nat} (hj:j<l.length) (q:Cm→Bool):(l.take (j+1)).filter q=(l.take j).filter q++if q l[j]=true then [l[j]] else []:=by
 rw[Z9 l j hj,List.filter_append]
 congr 1
 cases h:q l[j]<;>simp[h]
theorem DP {l:List Cm} {x:Cm} {i:Nat} (h:VL l x=i):i<l.length∧(l.take i).filter (fun y=>decide (y≠x))=l.take i∧l[i]? = some x:=by
 unfold VL at h
 split at h
 ·rename_i hm
  have hi:l.idxOf x=i:=by omega
  have h1:l.idxOf x<l.length:=List.idxOf_lt_length_of_mem hm
  refine⟨by omega,?_,?_⟩
  ·rw[List.filter_eq_self]
   intro y hy
   obtain⟨k,hk,rfl⟩:=List.getElem_of_mem hy
   rw[List.length_take]at hk
   rw[List.getElem_take]
   have:=List.not_of_lt_findIdx (p:=(· == x)) (xs:=l) (i:=k) (show k<List.findIdx (· == x) l by rw[show List.findIdx (· == x) l=l.idxOf x from rfl];omega)
   simpa using this
  ·rw[←hi,List.getElem?_eq_getElem h1,List.getElem_idxOf h1]
 ·omega
theorem DQ (T:World) (h:Hp) (o:Ow) (t:Tg) (v:Value) (l:List Cm) (bx:Nat) (x:Cm) (s:Qz o t h v l) (d:Ug o h) (hb:ZL o h bx (.cells x.C.toArray 47)) (hl:l.length≤4611686018427387904) :
  Zd Tryz.prog T 147 #[v,N0 bx] h fun v' h'=>Qz o t h' v' (l.filter fun y=>decide (y≠x))∧Kp (fun u=>u=t) o h o h':=by
 have ts:Ts J8.C 5 h v l:=⟨s.sl⟩
 obtain⟨p,c,rfl,Yx⟩:=XP ts
 refine Zd.Zi (args:=[_,_]) Tryz.func147 rfl rfl rfl rfl ?_
 unfold N0 Wj
 simp -implicitDefEqProofs only[go_sem,↓reduceIte]
 refine (Kt T h _ l bx x ts hb.2 hl).use ?_
 rintro _ h1 ⟨rfl,b1⟩
 have k1:Kp (fun u=>u=t) o h o h1:=Kp.Lu d b1 _
 by_cases hm:x∈l
 case neg=>
  have e:VL l x = -1:=by unfold VL;rw[if_neg hm]
  have e2:(l.filter fun y=>decide (y≠x))=l:=by
   rw[List.filter_eq_self];intro y hy;simpa using fun q=>hm (by rw[←q];exact hy)
  simp -implicitDefEqProofs only[go_sem,↓reduceIte,e,e2]
  exact⟨Qz.Zc (S:=fun _=>False) s (Kp.Lu d b1 _) id,k1⟩
 obtain⟨i0,TC⟩:∃i:Nat,VL l x=i:=⟨l.idxOf x,by unfold VL;rw[if_pos hm]⟩
 obtain⟨hi,hf,hx⟩:=DP TC
 rcases s with⟨⟨q,h1'⟩,h2',h3'⟩|⟨b,off,cap,pre,spare,o1,hv,o3,o4,o5,o6,o7⟩
 ·omega
 simp only[Value.slice.injEq]at hv
 obtain⟨rfl,_,rfl⟩:=hv
 have i1:¬((i0:Nat):Int) = -1:=by omega
 simp -implicitDefEqProofs only[go_sem,↓reduceIte,TC,i1]
 obtain⟨q,hq⟩:∃q:Cm→Bool,q=fun y=>decide ¬y=x:=⟨_,rfl⟩
 have hq':(fun y=>decide (y≠x))=q:=by rw[hq]
 have hqx:∀y,q y=decide ¬y=x:=fun y=>by rw[hq]
 rw[hq']at hf
 rw[←hq]
 have CM:l[i0]=x:=by rw[List.getElem?_eq_getElem hi]at hx;exact Option.some.inj hx
 have sl:l.length≤c:=o7
 have el:∀L:List Cm,(Zz J8.C L).length=L.length*5:=fun L=>Jw (n:=5) Od L
 refine VS.ZU (fun F g=>F 0=.slice (some ⟨b,off,none⟩) l.length c∧F 1=N0 bx∧Kp (fun u=>u=t) o h o g∧∃(i j:Nat) (L:List Cm),F 5=.int .i64 i∧F 6=.int .i64 j∧j≤l.length∧i<j∧L.length=l.length∧L.take i=(l.take j).filter q∧L.drop j=l.drop j∧i=((l.take j).filter q).length ∧
   g[b]? = some (.cells (pre++(Zz J8.C L++spare)).toArray 47 (0,0)))
  (fun F _=>l.length-(vi (F 6)).toNat) rfl ⟨rfl,rfl,k1,i0,i0+1,l,rfl,?_,by omega,by omega,rfl,?_,rfl,?_,b1.get (Za o3) o3⟩ ?_
 ·show Value.int .i64 _=_
  congr 1
 ·rw[Vc hi,hf,CM,hqx,if_neg (by simp),List.append_nil]
 ·rw[Vc hi,hf,CM,hqx,if_neg (by simp),List.append_nil,List.length_take];omega
 rintro F g ⟨f0,f1,kg,i,j,L,f5,f6,hj,ji,hL,xy,hLj,FM,gb⟩
 unfold N0 Wj at f1
 simp only[List.map]at f1
 have gl:=Za gb
 by_cases ZA:j<l.length
 ·have ZH:(j:Int)<l.length:=by omega
  have hjL:L[j]? = l[j]?:=by
   have:=congrArg (fun z=>z[0]?) hLj
   simpa using this
  have Ic:j<L.length:=by omega
  have hjE:L[j]=l[j]:=by
   rw[List.getElem?_eq_getElem Ic,List.getElem?_eq_getElem ZA]at hjL
   exact Option.some.inj hjL
  have ow:Ys o t 47 5 g (.slice (some ⟨b,off,none⟩) L.length c) L.length (Zz J8.C L):=.inr ⟨b,off,c,pre,spare,o1,rfl,gb,o4,el L,by rw[hL];exact o6,by omega⟩
  obtain⟨p2,c2,ng,I4⟩:=XP (⟨ow.sl⟩:Ts J8.C 5 g _ L)
  obtain⟨bb,oo,lF,_,hr⟩:=I4 (by intro e;rw[e]at Ic;simp at Ic)
  subst lF
  simp only[Value.slice.injEq,Option.some.injEq,Addr.mk.injEq]at ng
  obtain⟨⟨rfl,rfl,_⟩,_,rfl⟩:=ng
  have r1:rd g ⟨b,off+j*5,none⟩ 5=some (l[j]).C:=by rw[hr j Ic,hjE]
  simp -implicitDefEqProofs only[go_sem,↓reduceIte,f0,f1,f5,f6,ZH,r1]
  have bxg:=hb.Zc kg
  have bxl:bx≠g.size:=by have:=Za bxg.2;omega
  refine (HG T _ bx x l[j] (by rw[Zq (Za bxg.2)];exact bxg.2)).use ?_
  rintro _ g1 ⟨rfl,b1'⟩
  have bp:Ze g.size g g1:=(Ze.push (Nat.le_refl _) _).trans (b1'.mono (by simp))
  have kg1:Kp (fun u=>u=t) o h o g1:=kg.Z4 bp
  have gb1:=bp.get gl gb
  have Zn6:g1[g.size]? = some (.cells (l[j]).C.toArray 47):=b1'.get (by simp) Zb
  have yr:rd g1 ⟨g.size,0,none⟩ 5=some (l[j]).C:=Zo Zn6 rfl
  have fs:=Vc ZA q
  have hd1:∀L':List Cm,L'.drop j=l.drop j→L'.drop (j+1)=l.drop (j+1):=fun L' h=>by
   rw[←List.drop_drop,←List.drop_drop,h]
  by_cases hxj:l[j]=x
  ·have fs':(l.take (j+1)).filter q=(l.take j).filter q:=by rw[fs,hqx,if_neg (by simp[hxj]),List.append_nil]
   simp -implicitDefEqProofs only[go_sem,↓reduceIte,hxj,f0,f1,f5,f6]
   refine⟨⟨f0,f1,kg1,i,j+1,L,f5,rfl,ZA,by omega,hL,by rw[fs'];exact xy,hd1 L hLj,by rw[fs'];exact FM,gb1⟩,?_⟩
   simp only[vi,Zh,↓reduceIte,f6];omega
  ·have fs':(l.take (j+1)).filter q=(l.take j).filter q++[l[j]]:=by rw[fs,hqx,if_pos (by simp[hxj])]
   have i0':(0:Int)≤i:=by omega
   have i1':(i:Int)<l.length:=by omega
   have hiL:i<L.length:=by omega
   have w1:=ZP gb1 (off+i*5) (l[j]).C
   have eL:Yl (pre++(Zz J8.C L++spare)) (off+i*5) (l[j]).C=pre++(Zz J8.C (L.set i l[j])++spare):=by
    have e1:Zz J8.C L=(Zz J8.C L).take (i*5)++(((Zz J8.C L).drop (i*5)).take 5++(Zz J8.C L).drop ((i+1)*5)):=by
     have:(Zz J8.C L).drop ((i+1)*5)=((Zz J8.C L).drop (i*5)).drop 5:=by rw[List.drop_drop];congr 1;omega
     rw[this,List.take_append_drop,List.take_append_drop]
    have hle:(i+1)*5≤(Zz J8.C L).length:=by rw[el];omega
    rw[nX Od L i hiL]
    conv=>lhs;rw[e1]
    have e2:pre++(((Zz J8.C L).take (i*5)++(((Zz J8.C L).drop (i*5)).take 5++(Zz J8.C L).drop ((i+1)*5)))++spare)=(pre++(Zz J8.C L).take (i*5))++(((Zz J8.C L).drop (i*5)).take 5++((Zz J8.C L).drop ((i+1)*5)++spare)):=by simp only[List.append_assoc]
    rw[e2,Wt (by rw[List.length_append,o4,List.length_take];omega) (by rw[List.length_take,List.length_drop,Od];omega)]
    simp only[List.append_assoc]
   rw[eL,if_pos ⟨by rw[List.length_append,List.length_append,o4,el,Od];omega,nV _⟩]at w1
   simp -implicitDefEqProofs only[go_sem,↓reduceIte,hxj,f0,f1,f5,f6,yr,i0',i1',w1]
   refine⟨⟨f0,f1,kg1.set o1 rfl _,i+1,j+1,L.set i l[j],rfl,rfl,ZA,by omega,by rw[List.length_set,hL],?_,?_,?_,Zw gb1⟩,?_⟩
   ·rw[Z9 _ i (by rw[List.length_set];exact hiL),List.take_set_of_le (Nat.le_refl _),List.getElem_set_self,fs',←xy]
   ·refine hd1 _ ?_
    rw[←hLj,List.drop_set_of_lt (by omega)]
   ·rw[fs',List.length_append,←FM];rfl
   ·simp only[vi,Zh,↓reduceIte,f6];omega
 ·have YE:¬(j:Int)<l.length:=by omega
  obtain rfl:j=l.length:=by omega
  rw[List.take_length]at xy FM
  have hiL:i≤L.length:=by omega
  have xQ:g[b]? = some (.cells ((pre++Zz J8.C (L.take i))++(Zz J8.C (L.drop i)++spare)).toArray 47 (0,0)):=by
   rw[←VM Od L i hiL,←VN Od L i hiL]
   have:(pre++(Zz J8.C L).take (i*5))++((Zz J8.C L).drop (i*5)++spare)=pre++(Zz J8.C L++spare):=by
    rw[List.append_assoc,←List.append_assoc (List.take _ _),List.take_append_drop]
   rw[this];exact gb
  have tl:(Zz J8.C (L.take i)).length=i*5:=by rw[el,List.length_take,Nat.min_eq_left hiL]
  simp -implicitDefEqProofs only[go_sem,↓reduceIte,f0,f5,f6,YE]
  refine OC (E:=47) (n:=5) (k:=l.length-i) Ev lQ rfl rfl xQ (by rw[List.length_append,o4,tl]) (by rw[el,List.length_drop,hL]) ?_
  intro new AW
  have i2:(i:Int)≤c:=by omega
  simp -implicitDefEqProofs only[go_sem,↓reduceIte,i2,f0,f5]
  have e:(Zz J8.C (L.take i))=Zz J8.C (l.filter q):=by rw[xy]
  refine⟨.inr ⟨b,off,c,pre,new++spare,o1,by rw[←FM],?_,o4,el _,?_,by omega⟩,kg.set o1 rfl _⟩
  ·rw[Zw xQ,←e,List.append_assoc]
  ·rw[List.length_append,AW,el,List.length_drop,o6,hL,←FM,←Nat.add_mul];congr 1;omega
@[go_sem] theorem Zn7 (x:Vt):Yp [some .i64,some .i64,some .i64,some .i64,some .i64,some .i64,some .i64,some .i64] (Zm x)=true:=rfl
@[go_sem] theorem Zn8 (x y:Vt):leq (Zm x) (Zm y)=decide (x=y):=by
 obtain⟨a,⟨b,c⟩,d,e,f,g,k⟩:=x
 obtain⟨a',⟨b',c'⟩,d',e',f',g',k'⟩:=y
 unfold Zm
 rw[Bool.eq_iff_iff]
 simp[leq,ceq,Vt.mk.injEq,and_assoc]
@[go_sem] theorem Zjf (x:XO):Yp [some .i64,some .i64] (X9 x)=true:=rfl
@[go_sem] theorem Zjg (x y:XO):leq (X9 x) (X9 y)=decide (x=y):=by
 obtain⟨a,b⟩:=x
 obtain⟨a',b'⟩:=y
 unfold X9
 rw[Bool.eq_iff_iff]
 simp[leq,ceq,XO.mk.injEq]
@[go_sem] theorem Zfr (x:Vt):(Zm x).length=8:=rfl
theorem Ku {h:Hp} {v:Value} {l:List Vt} (s:Ts Zm 8 h v l):∃p c,v=.slice p l.length c∧(l≠[]→∃b o,p=some ⟨b,o,none⟩∧b<h.size∧∀i (hi:i<l.length),rd h ⟨b,o+i*8,none⟩ 8=some (Zm l[i])):=by
 obtain⟨p,c,hv,hh⟩:=s.open Zfr (by decide)
 refine⟨p,c,hv,fun Yr=>?_⟩
 obtain⟨b,o,h1,h2,h3⟩:=hh Yr
 exact⟨b,o,h1,h2,fun i hi=>(h3 i hi).rd (by simp[Zm]) rfl⟩
theorem af (T:World) (h:Hp) (v:Value) (l:List Vt) (x:Vt) (s:Ts Zm 8 h v l) (hl:l.length≤4611686018427387904) :
  Zd Tryz.prog T 150 #[v,.agg (Zm x).toArray] h fun v' h'=>(∃i:Int,v'=.int .i64 i∧(0≤i↔x∈l))∧Ze h.size h h':=by
 obtain⟨p,c,rfl,Yx⟩:=Ku s
 refine Zd.Zi (args:=[_,_]) Tryz.func150 rfl rfl rfl rfl ?_
 simp -implicitDefEqProofs only[go_sem,↓reduceIte]
 obtain⟨h1,YF⟩:=Zu (h.push (.cells (Zm x).toArray 161):Hp)
 have b1:Ze h.size h h1:=by rw[YF];exact Ze.push (Nat.le_refl _) _
 have x1:h1[h.size]? = some (.cells (Zm x).toArray 161):=by rw[YF];exact Zb
 rw[←YF]
 clear YF
 refine VS.ZU (fun F g=>g=h1∧F 0=.slice p l.length c∧F 3=.pointer (some ⟨h.size,0,none⟩)∧F 7=.int .i64 l.length∧∃i:Nat,i≤l.length∧F 8=.int .i64 i∧∀j (hj:j<l.length),j<i→l[j]≠x)
  (fun F _=>l.length-(vi (F 8)).toNat) rfl ⟨rfl,rfl,rfl,rfl,0,by omega,rfl,fun j hj q=>by omega⟩ ?_
 rintro F g ⟨rfl,f0,f3,f7,i,hi,f8,YH⟩
 by_cases ZA:i<l.length
 ·have ZH:(i:Int)<l.length:=by omega
  obtain⟨bb,oo,rfl,Ut,LU⟩:=Yx (by intro e;rw[e]at ZA;simp at ZA)
  have r1:rd g ⟨bb,oo+i*8,none⟩ 8=some (Zm l[i]):=by rw[XB b1 (by exact Ut)];exact LU i ZA
  have r0:rd g ⟨h.size,0,none⟩ 8=some (Zm x):=Zo x1 rfl
  simp -implicitDefEqProofs only[go_sem,↓reduceIte,f0,f3,f7,f8,ZH]
  refine VS.q mixed (by kernel_rfl) ?_
  simp -implicitDefEqProofs only[go_sem,↓reduceIte,f0,f3,f7,f8,ZH,r1,r0]
  by_cases q:l[i]=x
  ·rw[q]
   simp -implicitDefEqProofs only[go_sem,↓reduceIte,b1]
   exact⟨_,rfl,fun _=>q▸List.getElem_mem ZA,fun _=>by omega⟩
  ·have q':¬x=l[i]:=fun e=>q e.symm
   simp -implicitDefEqProofs only[go_sem,↓reduceIte,q',f0,f3,f7,f8]
   refine⟨⟨rfl,f0,f3,f7,i+1,ZA,rfl,fun j hj Wn=>?_⟩,?_⟩
   ·by_cases e:j=i
    ·subst e;exact q
    ·exact YH j hj (by omega)
   ·simp only[vi,Zh,↓reduceIte,f8];omega
 ·have YE:¬(i:Int)<l.length:=by omega
  have hx:x ∉ l:=fun hm=>by obtain⟨j,hj,he⟩:=List.getElem_of_mem hm;exact YH j hj (by omega) he
  simp -implicitDefEqProofs only[go_sem,↓reduceIte,f7,f8,YE,b1,hx]
  exact⟨-1,rfl,fun q=>by omega,fun q=>q.elim⟩
theorem IM (T:World) (h:Hp) (v:Value) (l:List Vt) (x:Vt) (s:Ts Zm 8 h v l) (hl:l.length≤4611686018427387904) :
  Zd Tryz.prog T 128 #[v,.agg (Zm x).toArray] h fun v' h'=>v'=.bool (decide (x∈l))∧Ze h.size h h':=by
 obtain⟨p,c,rfl,Yx⟩:=Ku s
 refine Zd.Zi (args:=[_,_]) Tryz.func128 rfl rfl rfl rfl ?_
 simp -implicitDefEqProofs only[go_sem,↓reduceIte]
 refine (af T _ _ l x (s.Z4 ((Ze.refl _ _).add _)) hl).use ?_
 rintro _ h2 ⟨⟨i,rfl,hi⟩,b2⟩
 have b:Ze h.size h h2:=((Ze.refl _ _).add _).trans (b2.mono (by simp))
 simp -implicitDefEqProofs only[go_sem,↓reduceIte,hi,b]
theorem Of (T:World) (h:Hp) (a b:XO):Zd Tryz.prog T 111 #[.agg (X9 a).toArray,.agg (X9 b).toArray] h fun v' h'=>v'=.bool (decide (below b a))∧Ze h.size h h':=by
 refine Zd.Zi (args:=[_,_]) Tryz.func111 rfl rfl rfl rfl ?_
 unfold X9
 by_cases q1:b.r<a.r
 ·have e:below b a:=.inl q1
  simp -implicitDefEqProofs only[go_sem,↓reduceIte,q1,e]
  (repeat' (first|exact Ze.refl _ _|assumption|refine Ze.add ?_ _|refine Ze.Zk ?_ (by first|omega|(simp;omega)) _|refine Ze.trans (by assumption) ?_))
 ·by_cases q2:a.r=b.r
  ·by_cases q3:b.n<a.n
   ·have e:below b a:=.inr ⟨q2.symm,q3⟩
    simp -implicitDefEqProofs only[go_sem,↓reduceIte,q1,q2,q3,e]
    (repeat' (first|exact Ze.refl _ _|assumption|refine Ze.add ?_ _|refine Ze.Zk ?_ (by first|omega|(simp;omega)) _|refine Ze.trans (by assumption) ?_))
   ·have e:¬below b a:=fun h=>by rcases h with h|⟨_,h⟩<;>omega
    simp -implicitDefEqProofs only[go_sem,↓reduceIte,q1,q2,q3,e]
    (repeat' (first|exact Ze.refl _ _|assumption|refine Ze.add ?_ _|refine Ze.Zk ?_ (by first|omega|(simp;omega)) _|refine Ze.trans (by assumption) ?_))
  ·have e:¬below b a:=fun h=>by rcases h with h|⟨h,_⟩<;>omega
   simp -implicitDefEqProofs only[go_sem,↓reduceIte,q1,q2,e]
   (repeat' (first|exact Ze.refl _ _|assumption|refine Ze.add ?_ _|refine Ze.Zk ?_ (by first|omega|(simp;omega)) _|refine Ze.trans (by assumption) ?_))
theorem MO (T:World) (h:Hp) (n:Nat) (hn:n≤1000000000000):Zd Tryz.prog T 125 #[.int .i64 n] h fun v' h'=>v'=.bool (decide (5<2*n))∧h'=h:=by
 refine Zd.Zi (args:=[_]) Tryz.func125 rfl rfl rfl rfl ?_
 have e:((5:Int)<2*(n:Int))=(5<2*n):=by apply propext;omega
 simp -implicitDefEqProofs only[go_sem,↓reduceIte,e]
theorem Qz.ts {o:Ow} {t:Tg} {h:Hp} {v:Value} {l:List Cm} (s:Qz o t h v l):Ts J8.C 5 h v l:=⟨Ys.sl s⟩
theorem OS {T:World} {K:Value→Hp→Prop} {ty:TypeId} {o:Ow} {t:Tg} {h:Hp} {v:Value} {l:List Cm} {x:Cm} {bx:Nat} {cb:Array Bool} (s:Qz o t h v l) (d:Ug o h) (hb:h[bx]? = some (.cells x.C.toArray 47)) (hr:l.length≤1000000000000)
  (H:∀p c o' h',Qz o' t h' (.slice p (l.length+1) c) (l++[x])→Kp (fun u=>u=t) o h o' h'→K (.slice p (l.length+1) c) h') :
  Sq Tryz.prog T .append #[37,37] ty cb [v,.slice (some ⟨bx,0,none⟩) 1 1] K h:=by
 have src:Sl 5 h (.slice (some ⟨bx,0,none⟩) 1 1) 1 x.C:=⟨_,1,rfl,rfl,fun _=>⟨bx,0,rfl,fun i hi=>by
  rw[Zg hb,Yj,Nat.zero_add];exact List.getElem?_eq_getElem hi⟩⟩
 refine XW (E:=47) (n:=5) (bytes:=40) (k:=1) Ev Tryz.underlying37 zu lQ rfl ZdD s d src (nV x) (by omega) (by omega) ?_
 intro v' o' h' w k _
 obtain⟨p,c,rfl,_⟩:=w.isSlice
 refine H p c o' h' ?_ k
 unfold Qz
 rw[Ye,JV,List.length_append]
 exact w
def ZaH (i:Nat) (t:Tg):Prop:=t=.node i∨t=.queue i
theorem nY (T:World) (h:Hp) (o:Ow) (wb i nb:Nat) (a:NA) (n:Nd) (x:Cm) (d:Ug o h) (N:ZI o h wb i nb a n) (hq:n.queue.length≤1000000000000) (hl:n.log.length≤1000000000000) :
  Zd Tryz.prog T 92 #[Zn nb,WJ x] h fun v' h'=>∃o' a',Kp (ZaH i) o h o' h'∧ZI o' h' wb i nb a' (add n x):=by
 have Vf:=Za N.ZD.2
 have R:=Zy N.ZD.2 N.pt.store.len
 refine Zd.Zi (args:=[_,_]) Tryz.func92 rfl rfl rfl rfl ?_
 unfold Zn WJ
 have e1:nb≠h.size:=by omega
 simp -implicitDefEqProofs only[go_sem,↓reduceIte]
 obtain⟨h1,YF⟩:=Zu (h.push (.cells x.C.toArray 47):Hp)
 have k1:Kp JK o h o h1:=by rw[YF];exact ZW d _
 have x1:ZL o h1 h.size (.cells x.C.toArray 47):=⟨d _ (Nat.le_refl _),by rw[YF];exact Zb⟩
 rw[←YF]
 have N1:=N.still k1
 clear YF
 have R1:=Zy N1.ZD.2 N1.pt.store.len
 have JF:=Za N1.ZD.2
 have hs1:=Za x1.2
 have r1:rd h1 ⟨h.size,0,none⟩ 5=some x.C:=Zo x1.2 rfl
 refine VS.z (h1.size) [13] (.p 0 (.p 1 (.p 2 (.q 3 (.q 4 (.s 5 (.p 6 (.p 7 (.p 8 (.p 9 (.p 10 (.q 11 (.q 12 (.w 13 (.p 14 (.p 15 .nil)))))))))))))))) mixed (by kernel_rfl) ?_
 simp -implicitDefEqProofs only[go_sem,↓reduceIte,R1.queue,JF,r1,hs1]
 refine (Vb T h1 _ n.queue x N1.pt.queue.ts (by omega)).use ?_
 rintro _ h2 ⟨rfl,b2⟩
 by_cases q1:x∈n.queue
 ·have e:add n x=n:=by unfold add;rw[if_pos (.inl q1)]
  simp -implicitDefEqProofs only[go_sem,↓reduceIte,q1,b2,e]
  exact⟨o,a,(ZC k1).Z4 b2,N1.still (Zs k1.ZV b2)⟩
 simp -implicitDefEqProofs only[go_sem,↓reduceIte,q1,b2,R1.log,JF,r1,hs1]
 have k2:=Zs k1.ZV b2
 refine (Vb T h2 _ n.log x (N1.still k2).pt.log.ts (by omega)).use ?_
 rintro _ h3 ⟨rfl,b3⟩
 have xR:Ze h1.size h1 h3:=b2.trans (b3.mono b2.size)
 have k3:=Zs k1.ZV xR
 by_cases q2:x∈n.log
 ·have e:add n x=n:=by unfold add;rw[if_pos (.inr q2)]
  simp -implicitDefEqProofs only[go_sem,↓reduceIte,q2,xR,e]
  exact⟨o,a,(ZC k1).Z4 xR,N1.still k3⟩
 have e:add n x = { n with queue:=n.queue++[x] }:=by unfold add;rw[if_neg (fun q=>q.elim q1 q2)]
 simp -implicitDefEqProofs only[go_sem,↓reduceIte,q2,xR,e]
 have N3:=N1.still k3
 have x3:=x1.Zc k3
 have R3:=Zy N3.ZD.2 N3.pt.store.len
 have RM:=Za N3.ZD.2
 have hs3:=Za x3.2
 have r3:rd h3 ⟨h.size,0,none⟩ 5=some x.C:=Zo x3.2 rfl
 refine VS.z (h3.size) [7,10] (.p 0 (.p 1 (.p 2 (.p 3 (.q 4 (.q 5 (.s 6 (.w 7 (.p 8 (.p 9 (.w 10 .nil))))))))))) mixed (by kernel_rfl) ?_
 simp -implicitDefEqProofs only[go_sem,↓reduceIte,R3.queue,RM,r3,hs3]
 have k4:=ZW k3.ZV (.cells x.C.toArray 47)
 have N4:=N3.still k4
 refine OS (l:=n.queue) N4.pt.queue k4.ZV Zb hq ?_
 intro p c o5 h5 w5 k5
 have b5:=N4.ZD.Zc k5 (by intro e;cases e)
 have W5:=YO b5.2 N4.pt.store.len
 have w:=W5.queue (.slice p (n.queue.length+1) c) rfl
 simp -implicitDefEqProofs only[go_sem,↓reduceIte,w]
 exact⟨o5,_,(((ZC k1).Z4 xR).push _).trans (k5.mono fun u q=>.inr q) |>.set b5.1 (.inl rfl) _,(N4.pt.HD k5 w5).put k5.ZV b5⟩
def QA (i:Nat) (t:Tg):Prop:=t=.world∨t=.told∨t=.node i∨t=.known i∨t=.log i∨t=.queue i∨t=.waiting i
theorem nZ {β:Type}:∀(l:List (Int × β)) (ks:List Int),ks.Nodup→(∀k∈ks,(Xe l k).isSome=true)→ks.length≤l.length:=by
 intro l
 induction l with
 | nil=>
  intro ks _ h
  cases ks with
  | nil=>simp
  | cons k ks=>have:=h k (by simp);simp[Xe]at this
 | cons x l ih=>
  intro ks hn h
  obtain⟨a,v⟩:=x
  have h1:(ks.erase a).length≤l.length:=ih _ (hn.erase a) fun k hk=>by
   have Pv:=(List.Nodup.mem_erase_iff hn).1 hk
   have:=h k Pv.2
   unfold Xe at this
   rw[if_neg (fun e=>Pv.1 e.symm)]at this
   exact this
  have h2:ks.length≤(ks.erase a).length+1:=by
   rw[List.length_erase];split<;>omega
  simp only[List.length_cons];omega
theorem DR {β:Type} (l:List (Int × β)) (a m:Nat) (h:∀j,j<m→(Xe l ((a+j:Nat):Int)).isSome=true):m≤l.length:=by
 have:=nZ l ((List.range m).map fun j=>((a+j:Nat):Int)) ?_ ?_
 ·simpa using this
 ·rw[List.nodup_iff_pairwise_ne,List.pairwise_map]
  exact (List.nodup_range (n:=m)).imp fun {x y} hxy he=>hxy (by omega)
 ·intro k hk
  simp only[List.mem_map,List.mem_range]at hk
  obtain⟨j,hj,rfl⟩:=hk
  exact h j hj
theorem da (T:World) (h:Hp) (cs:List Value) (s:Oc cs) (x:Cm):Zd Tryz.prog T 38 #[.agg cs.toArray,WJ x] h fun v' h'=>v'=.tuple #[.agg (Fa cs x).toArray,.agg #[.int .i64 (RK cs x),.int .i64 (Kk cs x)],.int .i64 (P9 cs x)]∧Ze h.size h h':=by
 refine (Av T h cs x.k x.c x.s x.n x.v s.fit s.num s.yes).mono ?_
 rintro v' h' ⟨H,b⟩
 refine⟨?_,b⟩
 rw[H]
 unfold doL Fa RK Kk P9 VG
 by_cases e:NC cs x.k x.c x.s x.n x.v=0
 ·rw[if_pos e,if_pos e,if_pos e,if_pos e,e]
 ·rw[if_neg e,if_neg e,if_neg e,if_neg e]
theorem Oc.oe {cs:List Value} (h:Yp XY cs=true):Oc cs:=⟨h,AQ h,Dx h⟩
theorem Oc.do {cs:List Value} (s:Oc cs) (x:Cm):Oc (Fa cs x):=by
 obtain⟨D,a,b,h1,h2,_⟩:=uk s.fit x
 refine Oc.oe ?_
 unfold doL at h1
 unfold Fa P9 VG
 by_cases e:NC cs x.k x.c x.s x.n x.v=0
 ·rw[if_pos e]at h1 ⊢
  simp only[List.cons.injEq,Value.agg.injEq,Array.mk.injEq]at h1
  rw[h1.1];exact h2
 ·rw[if_neg e]at h1 ⊢
  simp only[List.cons.injEq,Value.agg.injEq,Array.mk.injEq]at h1
  rw[h1.1];exact h2
theorem N9 {T:World} {K:Value→Hp→Prop} {ty:TypeId} {o:Ow} {t:Tg} {h:Hp} {v:Value} {l:List Sd} {x:Sd} {bx:Nat} {cb:Array Bool} (s:Ys o t 42 5 h v l.length (Zz VK l)) (d:Ug o h) (hb:h[bx]? = some (.cells (VK x).toArray 42)) (hr:l.length≤1000000000000)
  (H:∀p c o' h',Ys o' t 42 5 h' (.slice p (l.length+1) c) (l++[x]).length (Zz VK (l++[x]))→Kp (fun u=>u=t) o h o' h'→K (.slice p (l.length+1) c) h') :
  Sq Tryz.prog T .append #[31,31] ty cb [v,.slice (some ⟨bx,0,none⟩) 1 1] K h:=by
 have src:Sl 5 h (.slice (some ⟨bx,0,none⟩) 1 1) 1 (VK x):=⟨_,1,rfl,rfl,fun _=>⟨bx,0,rfl,fun i hi=>by
  rw[Zg hb,Yj,Nat.zero_add];exact List.getElem?_eq_getElem hi⟩⟩
 refine XW (E:=42) (n:=5) (bytes:=40) (k:=1) Zdz Tryz.underlying31 ZkT ZkV rfl ZkU s d src rfl (by omega) (by omega) ?_
 intro v' o' h' w k _
 obtain⟨p,c,rfl,_⟩:=w.isSlice
 refine H p c o' h' ?_ k
 rw[Ye,JV,List.length_append]
 exact w
theorem ZE.db {o o1:Ow} {h h1:Hp} {wb:Nat} {nb:Nat→Nat} {a:WA} {fl:List Y9} {bad:Nat→Int} {told om:List Sd} {v:Value} (W:ZE o h wb nb a fl bad told) (k:Kp (fun t=>t=.told) o h o1 h1)
  (hv:Ys o1 .told 42 5 h1 v om.length (Zz VK om)) {e:Option Hp} (w:e=some (h1.setIfInBounds wb (.cells (Y6 bad { a with told:=v }).toArray 123))) :
  ∃g,e=some g∧ZE o1 g wb nb { a with told:=v } fl bad om∧Kp (fun t=>t=.world) o1 h1 o1 g:=by
 have b:=W.ZD.Zc k (by intro e;cases e)
 have kk:Kp (fun t=>t=.world) o1 h1 o1 (h1.setIfInBounds wb (.cells (Y6 bad { a with told:=v }).toArray 123)):=(Kp.refl k.ZV (fun t=>t=.world)).set b.1 rfl _
 exact⟨_,w,⟨⟨b.1,Zw b.2⟩,(W.nodes.Zc k (by intro e;cases e)).Zc kk (by intro e;cases e),(W.Zj.Zc k (by intro e;cases e)).Zc kk (by intro e;cases e),hv.Zc kk (by intro e;cases e)⟩,kk⟩
def dd:Option Value→Nat
 | some (.slice _ l _)=>l
 | _=>0
set_option maxHeartbeats 1000000 in
theorem Kv (T:World) (h:Hp) (o:Ow) (wb i nb:Nat) (Z7:Nat→Nat) (a:NA) (n:Nd) (YC:WA) (fl:List Y9) (bad:Nat→Int) (told:List Sd) (s:Int) (x:Cm) (d:Ug o h)
  (N:ZI o h wb i nb a n) (W:ZE o h wb Z7 YC fl bad told) (hk:n.known.length≤100000000000) (hl:n.log.length≤100000000000) (ht:told.length≤100000000000) (hq:n.queue.length≤1000000000000) (hw:n.waiting.length≤1000000000000) :
  Zd Tryz.prog T 126 #[Zn wb,Zn nb,.int .i64 s,WJ x] h fun v' h'=>∃o' a' Xn,Kp (QA i) o h o' h'∧ZI o' h' wb i nb a' (Uu n s x).n∧ZE o' h' wb Z7 Xn fl bad (told++(Uu n s x).ts):=by
 have Vf:=Za N.ZD.2
 have Ff:=Za W.ZD.2
 refine Zd.Zi (args:=[_,_,_,_]) Tryz.func126 rfl rfl rfl rfl ?_
 unfold Zn WJ
 simp -implicitDefEqProofs only[go_sem,↓reduceIte]
 obtain⟨h1,YF⟩:=Zu (h.push (.cells x.C.toArray 47):Hp)
 have k1:Kp JK o h o h1:=by rw[YF];exact ZW d _
 have x1:ZL o h1 h.size (.cells x.C.toArray 47):=⟨d _ (Nat.le_refl _),by rw[YF];exact Zb⟩
 rw[←YF]
 have N1:=N.still k1
 have W1:=W.still k1
 clear YF
 have R1:=Zy N1.ZD.2 N1.pt.store.len
 have JF:=Za N1.ZD.2
 have hs1:=Za x1.2
 have r1:rd h1 ⟨h.size,0,none⟩ 5=some x.C:=Zo x1.2 rfl
 refine VS.z (h1.size) [6] (.p 0 (.p 1 (.p 2 (.q 3 (.p 4 (.q 5 (.w 6 .nil))))))) mixed (by kernel_rfl) ?_
 simp -implicitDefEqProofs only[go_sem,↓reduceIte,R1.known,JF,r1,hs1]
 have km:=XN (K:=fun _ _=>True) (x:=.agg x.C.toArray) (n:=s) VJ N1.pt.known.2 (P:=Tryz.prog)
 rw[XN VJ N1.pt.known.2]
 have k2:Kp (fun t=>t=.known i) o h1 o (h1.setIfInBounds a.known (Xi (ins (Ul WJ n.known) s (.agg x.C.toArray)))):=(Kp.refl k1.ZV (fun t=>t=.known i)).set N1.pt.known.1 rfl _
 have m2:Qf o (.known i) (h1.setIfInBounds a.known (Xi (ins (Ul WJ n.known) s (.agg x.C.toArray)))) a.known (Ul WJ (ins n.known s x)):=
  ⟨N1.pt.known.1,by rw[Zw N1.pt.known.2,TQ];rfl⟩
 have N2:ZI o (h1.setIfInBounds a.known (Xi (ins (Ul WJ n.known) s (.agg x.C.toArray)))) wb i nb a (Uo n s x):=⟨N1.ZD.Zc k2 (by intro e;cases e),N1.pt.gW k2 m2⟩
 have W2:=W1.Zc k2 (by rintro t rfl;simp[Tg.of])
 have K2:Kp (QA i) o h o (h1.setIfInBounds a.known (Xi (ins (Ul WJ n.known) s (.agg x.C.toArray)))):=(ZC k1).trans (k2.mono fun t q=>.inr (.inr (.inr (.inl q))))
 generalize (h1.setIfInBounds a.known (Xi (ins (Ul WJ n.known) s (.agg x.C.toArray))))=h2 at *
 clear km
 unfold Uu
 obtain⟨L,hL⟩:=Zu ((Uo n s x).known.length)
 have hLb:L≤100000000001:=by
  rw[hL];unfold Uo;simp only[Rx];split<;>omega
 obtain⟨n0,I1⟩:=Zu (Uo n s x)
 rw[←I1]at N2 hL ⊢
 rw[←hL]
 have hl0:n0.log.length≤100000000000:=by rw[I1];exact hl
 have hq0:n0.queue.length≤1000000000000:=by rw[I1];exact hq
 have hw0:n0.waiting.length≤1000000000000:=by rw[I1];exact hw
 clear N1 W1 R1 JF hs1 r1 k2 m2 N W hk hl hq hw I1 k1 x1
 simp -implicitDefEqProofs only[go_sem,↓reduceIte]
 refine VS.ZU (fun F g=>F 0=.pointer (some ⟨wb,0,none⟩)∧F 1=.pointer (some ⟨nb,0,none⟩)∧∃o' a' Xn m ts f j,Kp (QA i) o h o' g∧ZI o' g wb i nb a' m∧ZE o' g wb Z7 Xn fl bad (told++ts)∧f+j=L+1∧m.known=n0.known∧m.log.length=n0.log.length+j ∧
   m.queue.length≤1000000000000∧m.waiting.length≤1000000000000∧ts.length≤j∧(∀j',j'<j→(Xe n0.known ((n0.log.length+j':Nat):Int)).isSome=true)∧(YN (L+1) n0).1=(YN f m).1∧(YN (L+1) n0).2=ts++(YN f m).2)
  (fun F g=>n0.log.length+L+2-dd (hc g ⟨nb,11,none⟩)) rfl ⟨rfl,rfl,o,a,YC,n0,[],L+1,0,K2,N2,by rw[List.append_nil];exact W2,rfl,rfl,rfl,hq0,hw0,Nat.le_refl _,fun j' h=>by omega,rfl,rfl⟩ ?_
 rintro F g ⟨f0,f1,o',a',Xn,m,ts,f,j,K,M,V,hf,bN,jv,hmq,hmw,hts,hjs,g1,g2⟩
 have R:=Zy M.ZD.2 M.pt.store.len
 have uF:=Za M.ZD.2
 obtain⟨lp,lc,OT,wu⟩:=Ys.isSlice M.pt.log
 have mu:dd (hc g ⟨nb,11,none⟩)=m.log.length:=by rw[R.log,OT];rfl
 rw[mu]
 have R11:=R.log
 rw[OT]at R11
 have lk:=fun (K:Value→Hp→Prop)=>Yn (K:=K) (n:=(m.log.length:Int)) (c:=true) VJ Ob M.pt.known.2
 have Vd:=fun (K:Value→Hp→Prop) (x:Obj)=>Yn (h:=g.push x) (K:=K) (n:=(m.log.length:Int)) (c:=true) VJ Ob ((Zq (Za M.pt.known.2)).trans M.pt.known.2)
 rw[Xh]at lk
 simp only[Xh]at Vd
 simp -implicitDefEqProofs only[go_sem,↓reduceIte,f0,f1]
 cases hx:Xe m.known (m.log.length:Int) with
 | none=>
  rw[hx]at lk
  simp only[hx,Option.map_none,Option.getD_none,Option.isSome_none,↓reduceIte]at lk Vd
  have e:f≠0→YN f m=(m,[]):=fun Yr=>by
   obtain⟨f',rfl⟩:∃f',f=f'+1:=⟨f-1,by omega⟩
   unfold YN;rw[hx]
  have e':YN f m=(m,[]):=by
   by_cases q:f=0
   ·subst q;rfl
   ·exact e q
  rw[e']at g1 g2
  refine VS.mono (N:=fun F' g'=>Ze g.size g g'∧F' 9=.bool false) ?_ ?_ (fun _ _ _ h=>h) (fun _ _ h=>h)
  ·refine VS.z (g.size) [9,14] (.p 0 (.p 1 (.p 2 (.q 3 (.p 4 (.p 5 (.p 6 (.q 7 (.p 8 (.or 9 (.p 10 (.p 11 (.p 12 (.s 13 (.w 14 (.p 15 .nil)))))) (.s 13 (.w 9 (.p 10 (.p 11 (.p 12 (.w 14 (.p 15 .nil))))))))))))))))) mixed (by kernel_rfl) ?_
   simp -implicitDefEqProofs only[go_sem,↓reduceIte,f0,f1,R.known,R11,uF,lk,Vd]
   repeat' (first|exact Ze.refl _ _|exact Ze.push (Nat.le_refl _) _|refine And.intro ?_ ?_)
  ·rintro F' g' ⟨b,f9⟩
   simp -implicitDefEqProofs only[go_sem,↓reduceIte,f9]
   rw[g1,g2,List.append_nil]
   exact⟨o',a',Xn,K.Z4 b,M.still (Zs K.ZV b),V.still (Zs K.ZV b)⟩
 | some y=>
  rw[hx]at lk
  simp only[hx,Option.map_some,Option.getD_some,Option.isSome_some,↓reduceIte]at lk Vd
  refine VS.mono (N:=fun F' g'=>Ze g.size g g'∧F' 0=.pointer (some ⟨wb,0,none⟩)∧F' 1=.pointer (some ⟨nb,0,none⟩)∧F' 9=.bool true∧F' 8=.pointer (some ⟨g.size,0,none⟩)∧g'[g.size]? = some (.cells y.C.toArray 47)) ?_ ?_ (fun _ _ _ h=>h) (fun _ _ h=>h)
  ·refine VS.z (g.size) [9,14] (.p 0 (.p 1 (.p 2 (.q 3 (.p 4 (.p 5 (.p 6 (.q 7 (.p 8 (.or 9 (.p 10 (.p 11 (.p 12 (.s 13 (.w 14 (.p 15 .nil)))))) (.s 13 (.w 9 (.p 10 (.p 11 (.p 12 (.w 14 (.p 15 .nil))))))))))))))))) mixed (by kernel_rfl) ?_
   simp -implicitDefEqProofs only[go_sem,↓reduceIte,f0,f1,R.known,R11,uF,lk,Vd,WJ]
   have gp:∀x:Obj,(g.push x)[g.size]? = some x:=fun x=>Zb
   repeat' (first|exact Ze.refl _ _|exact Ze.push (Nat.le_refl _) _|exact gp _|refine And.intro ?_ ?_)
  ·rintro F2 g2 ⟨b2,f20,f21,f29,f28,x2⟩
   simp -implicitDefEqProofs only[go_sem,↓reduceIte,f29]
   have kb:=Zs K.ZV b2
   have M2:=M.still kb
   have V2:=V.still kb
   have bx2:ZL o' g2 g.size (.cells y.C.toArray 47):=⟨K.ZV _ (Nat.le_refl _),x2⟩
   have K2:=K.Z4 b2
   have S8:=uF
   clear R R11 lk Vd uF mu
   have R2:=Zy M2.ZD.2 M2.pt.store.len
   have JL:=Za M2.ZD.2
   have hs2:=Za x2
   have r2:rd g2 ⟨g.size,0,none⟩ 5=some y.C:=Zo x2 rfl
   refine VS.z (g2.size) [7,10] (.p 0 (.p 1 (.p 2 (.p 3 (.q 4 (.q 5 (.s 6 (.w 7 (.p 8 (.p 9 (.w 10 .nil))))))))))) mixed (by kernel_rfl) ?_
   simp -implicitDefEqProofs only[go_sem,↓reduceIte,f20,f21,f28,R2.log,JL,hs2,r2]
   have k3:=ZW K2.ZV (.cells y.C.toArray 47)
   refine OS (l:=m.log) (M2.still k3).pt.log k3.ZV Zb (by omega) ?_
   intro p c o3 g3 w3 kk3
   have k3':Kp (fun t=>t=.log i) o' g2 o3 g3:=(ZC k3).trans kk3
   have b3:=M2.ZD.Zc k3' (by intro e;cases e)
   have w:=(YO b3.2 M2.pt.store.len).log (.slice p (m.log.length+1) c) rfl
   simp -implicitDefEqProofs only[go_sem,↓reduceIte,w]
   have M4:=(M2.pt.uC k3' w3).put k3'.ZV b3
   have kn:Kp (fun t=>t=.node i) o3 g3 o3 (g3.setIfInBounds nb (Y8 { m with log:=m.log++[y] } { a' with log:=.slice p (m.log.length+1) c })):=(Kp.refl k3'.ZV (fun t=>t=.node i)).set b3.1 rfl _
   have V4:=(V2.Zc k3' (by rintro t rfl;simp[Tg.of])).Zc kn (by rintro t rfl;simp[Tg.of])
   have x4:=(bx2.Zc k3').Zc kn
   have K4:Kp (QA i) o h o3 (g3.setIfInBounds nb (Y8 { m with log:=m.log++[y] } { a' with log:=.slice p (m.log.length+1) c })):=
    (K2.trans (k3'.mono fun t q=>.inr (.inr (.inr (.inr (.inl q)))))).trans (kn.mono fun t q=>.inr (.inr (.inl q)))
   obtain⟨g4,VO⟩:=Zu (g3.setIfInBounds nb (Y8 m { a' with log:=.slice p (m.log.length+1) c }))
   rw[show Y8 { m with log:=m.log++[y] } { a' with log:=.slice p (m.log.length+1) c } = Y8 m { a' with log:=.slice p (m.log.length+1) c } from rfl,←VO]at M4 V4 x4 K4
   rw[←VO]
   clear VO kn
   have R4:=Zy M4.ZD.2 M4.pt.store.len
   have Mt:=Za M4.ZD.2
   have hs4:=Za x4.2
   have r4:rd g4 ⟨g.size,0,none⟩ 5=some y.C:=Zo x4.2 rfl
   have call:=fun G=>da T G m.store M4.pt.store y
   have R4s:rd g4 ⟨nb,12,none⟩ 40=some m.store:=R4.store
   have hD:=(M4.pt.store.do y)
   have hD0:Fa ({ m with log:=m.log++[y] }:Nd).store y=Fa m.store y:=rfl
   rw[hD0]at hD
   obtain⟨D,hDe⟩:=Zu (Fa m.store y)
   obtain⟨E,hE⟩:=Zu (P9 m.store y)
   obtain⟨c1,UA⟩:=Zu (RK m.store y)
   obtain⟨c2,I4⟩:=Zu (Kk m.store y)
   rw[←hDe]at hD
   rw[←hDe,←hE,←UA,←I4]at call
   have Ma:=hD.len
   have CN:=hD.one
   unfold WJ at call
   have H4:=ZK (zs:=JA) (vs:=D) (by rw[Ma];rfl)
   unfold JA at H4
   simp only[rep,List.cons_append,List.nil_append]at H4
   have wA:∀(G:Hp) (k:Nat),G[k]? = some (.cells JA.toArray 61)→wr G ⟨k,0,none⟩ D=some (G.setIfInBounds k (.cells D.toArray 61)):=fun G k hx=>by
    rw[ZP hx 0 D,ZK (by rw[Ma];rfl),if_pos ⟨by rw[Ma];simp[JA,rep],CN⟩]
   have wB:∀(G:Hp) (k:Nat),G[k]? = some (.cells [.int .i64 0,.int .i64 0].toArray 40)→wr G ⟨k,0,none⟩ [.int .i64 c1,.int .i64 c2]=some (G.setIfInBounds k (.cells [.int .i64 c1,.int .i64 c2].toArray 40)):=fun G k hx=>by
    rw[ZP hx 0 _];rfl
   have gl:∀(G:Hp) (X Y:Obj),((G.push X).push Y)[G.size]? = some X:=fun G X Y=>by rw[Zq (by simp),Zb]
   have gs:∀(G:Hp) (k:Nat) (X Y:Obj),((G.setIfInBounds k X).push Y)[G.size]? = some Y:=fun G k X Y=>by
    have:=Zb (h:=G.setIfInBounds k X) (o:=Y);rwa [Array.size_setIfInBounds]at this
   have gl':=gs
   have gr:∀(G:Hp) (X Y:Obj),((G.push X).push Y)[G.size+1]? = some Y:=fun G X Y=>by
    have:=Zb (h:=G.push X) (o:=Y);rwa [Array.size_push]at this
   refine VS.mono (N:=fun F' g'=>Ze g4.size g4 g'∧F' 0=.pointer (some ⟨wb,0,none⟩)∧F' 1=.pointer (some ⟨nb,0,none⟩)∧F' 8=.pointer (some ⟨g.size,0,none⟩)∧∃A B,F' 10=.pointer (some ⟨A,0,none⟩)∧F' 11=.pointer (some ⟨B,0,none⟩)∧g4.size≤A∧g4.size≤B∧g'[A]? = some (.cells D.toArray 61)∧g'[B]? = some (.cells [.int .i64 c1,.int .i64 c2].toArray 40)) ?_ ?_ (fun _ _ _ h=>h) (fun _ _ h=>h)
   ·refine VS.z (g4.size) [5,12,13] (.p 0 (.p 1 (.p 2 (.q 3 (.q 4 (.or 5 (.p 6 (.p 7 (.p 8 (.p 9 (.or 10 (.s 11 (.w 12 (.w 13 (.p 14 .nil)))) (.s 11 (.s 10 (.w 12 (.w 13 (.p 14 .nil)))))))))) (.or 10 (.or 5 (.p 6 (.p 7 (.p 8 (.p 9 (.s 11 (.w 12 (.w 13 (.p 14 .nil)))))))) (.s 11 (.w 5 (.p 6 (.p 7 (.p 8 (.p 9 (.w 12 (.w 13 (.p 14 .nil)))))))))) (.s 11 (.or 5 (.p 6 (.p 7 (.p 8 (.p 9 (.s 10 (.w 12 (.w 13 (.p 14 .nil)))))))) (.s 10 (.w 5 (.p 6 (.p 7 (.p 8 (.p 9 (.w 12 (.w 13 (.p 14 .nil)))))))))))))))))) mixed (by kernel_rfl) ?_
    simp -implicitDefEqProofs only[go_sem,↓reduceIte,f20,f21,f28,R4s,Mt,hs4,r4]
    repeat' (first|with_reducible exact Ze.refl _ _|with_reducible exact Ze.push (by omega) _|with_reducible refine And.intro ?_ ?_)
    all_goals first
     | (refine (call g4).use ?_
        rintro _ g5 ⟨rfl,b5⟩
        have s5:=b5.size
        simp -implicitDefEqProofs only[go_sem,↓reduceIte,b5,Ma,CN,H4]
        refine⟨⟨f20,f21,f28,_,_,rfl,rfl,s5,by omega,gl _ _ _,gr _ _ _⟩,⟨f20,f21,f28,_,_,rfl,rfl,by omega,s5,gr _ _ _,gl _ _ _⟩⟩)
     | (refine (call (g4.push (.cells _ 61))).use ?_
        rintro _ g5 ⟨rfl,b5⟩
        have s5:=b5.size
        rw[Array.size_push]at s5
        have B5:Ze g4.size g4 g5:=(Ze.push (Nat.le_refl _) _).trans (b5.mono (by simp))
        have xA:=b5.get (k:=g4.size) (by simp) Zb
        have Tx:=wA _ _ xA
        have zA:=Za xA
        have gA:=Zw (o:=.cells D.toArray 61) xA
        simp -implicitDefEqProofs only[go_sem,↓reduceIte,B5,Ma,CN,Tx,zA]
        exact⟨f20,f21,f28,_,_,rfl,rfl,Nat.le_refl _,by omega,by rw[Zq (by simpa using zA)];exact gA,gs _ _ _ _⟩)
     | (refine (call (g4.push (.cells _ 40))).use ?_
        rintro _ g5 ⟨rfl,b5⟩
        have s5:=b5.size
        rw[Array.size_push]at s5
        have B5:Ze g4.size g4 g5:=(Ze.push (Nat.le_refl _) _).trans (b5.mono (by simp))
        have xB:=b5.get (k:=g4.size) (by simp) Zb
        have Kw:=wB _ _ xB
        have zB:=Za xB
        have gB:=Zw (o:=.cells [.int .i64 c1,.int .i64 c2].toArray 40) xB
        simp -implicitDefEqProofs only[go_sem,↓reduceIte,B5,Ma,CN,Kw,H4,zB]
        exact⟨f20,f21,f28,_,_,rfl,rfl,by omega,Nat.le_refl _,gl' _ _ _ _,by rw[Zq (by simpa using zB)];exact gB⟩)
     | (refine (call ((g4.push (.cells _ 61)).push (.cells _ 40))).use ?_
        rintro _ g5 ⟨rfl,b5⟩
        have s5:=b5.size
        rw[Array.size_push,Array.size_push]at s5
        have B5:Ze g4.size g4 g5:=((Ze.push (Nat.le_refl _) _).Yg (by simp) _).trans (b5.mono (by simp;omega))
        have xA:=b5.get (k:=g4.size) (by simp;omega) (gl _ _ _)
        have xB:=b5.get (k:=g4.size+1) (by simp) (gr _ _ _)
        have Tx:=wA _ _ xA
        have zA:=Za xA
        have OU:=(Yh (o:=.cells D.toArray 61) (show g4.size≠g4.size+1 by omega)).trans xB
        have Kw:=wB _ _ OU
        have zB:=Za OU
        simp -implicitDefEqProofs only[go_sem,↓reduceIte,B5,Ma,CN,Tx,zA,Kw,zB]
        exact⟨f20,f21,f28,_,_,rfl,rfl,by omega,by omega,(Yh (by omega)).trans (Zw xA),Zw OU⟩)
     | (refine (call ((g4.push (.cells _ 40)).push (.cells _ 61))).use ?_
        rintro _ g5 ⟨rfl,b5⟩
        have s5:=b5.size
        rw[Array.size_push,Array.size_push]at s5
        have B5:Ze g4.size g4 g5:=((Ze.push (Nat.le_refl _) _).Yg (by simp) _).trans (b5.mono (by simp;omega))
        have xB:=b5.get (k:=g4.size) (by simp;omega) (gl _ _ _)
        have xA:=b5.get (k:=g4.size+1) (by simp) (gr _ _ _)
        have Tx:=wA _ _ xA
        have zA:=Za xA
        have OU:=(Yh (o:=.cells D.toArray 61) (show g4.size+1≠g4.size by omega)).trans xB
        have Kw:=wB _ _ OU
        have zB:=Za OU
        simp -implicitDefEqProofs only[go_sem,↓reduceIte,B5,Ma,CN,Tx,zA,Kw,zB]
        exact⟨f20,f21,f28,_,_,rfl,rfl,by omega,by omega,(Yh (by omega)).trans (Zw xA),Zw OU⟩)
   ·rintro F5 g5 ⟨b5,f50,f51,f58,A,B,f5A,f5B,hA,hB,yA,yB⟩
    have HH:=Zs K4.ZV b5
    have M5:=M4.still HH
    have V5:=V4.still HH
    have x5:=x4.Zc HH
    have K5:=K4.Z4 b5
    have z5:=Za M5.ZD.2
    have rA:rd g5 ⟨A,0,none⟩ 40=some D:=Zo yA Ma
    obtain⟨g6,w6,M6,k6⟩:=ZS.write (n:={ m with log:=m.log++[y],store:=D }) { M5.pt with store:=hD } K5.ZV M5.ZD ((YO M5.ZD.2 M5.pt.store.len).store D Ma CN)
    have V6:=V5.Zc k6 (by rintro t rfl;simp[Tg.of])
    have x6:=x5.Zc k6
    have K6:Kp (QA i) o h o3 g6:=K5.trans (k6.mono fun t q=>.inr (.inr (.inl q)))
    have xB6:=(show ZL o3 g5 B _ from⟨K4.ZV _ (by omega),yB⟩).Zc k6
    have R6:=Zy M6.ZD.2 Ma
    have z6:=Za M6.ZD.2
    clear R4 R4s Mt hs4 r4 R2 JL hs2 r2
    simp -implicitDefEqProofs only[go_sem,↓reduceIte,f50,f51,f58,f5A,f5B,rA,w6,Ma,R6.queue,z5]
    refine (DQ T g6 o3 (.queue i) _ m.queue g.size y M6.pt.queue K6.ZV x6 (by omega)).use ?_
    rintro v7 g7 ⟨q7,k7⟩
    obtain⟨p7,c7,rfl,_⟩:=Ys.isSlice q7
    have b7:=M6.ZD.Zc k7 (by intro e;cases e)
    obtain⟨g8,w8,M8,k8⟩:=(M6.pt.HD k7 q7).write k7.ZV b7 ((YO b7.2 Ma).queue (.slice p7 _ c7) rfl)
    have z7:=Za b7.2
    have V8:=(V6.Zc k7 (by rintro t rfl;simp[Tg.of])).Zc k8 (by rintro t rfl;simp[Tg.of])
    have x8:=(x6.Zc k7).Zc k8
    have xB8:=(xB6.Zc k7).Zc k8
    have K8:Kp (QA i) o h o3 g8:=(K6.trans (k7.mono fun t q=>.inr (.inr (.inr (.inr (.inr (.inl q))))))).trans (k8.mono fun t q=>.inr (.inr (.inl q)))
    have R8:=Zy M8.ZD.2 Ma
    have z8:=Za M8.ZD.2
    simp -implicitDefEqProofs only[go_sem,↓reduceIte,f50,f51,f58,w8,z7,R8.waiting]
    refine (Kt T g8 _ m.waiting g.size y M8.pt.waiting.ts x8.2 (by omega)).use ?_
    rintro _ g9 ⟨rfl,b9⟩
    have kb9:=Zs K8.ZV b9
    have M9:=M8.still kb9
    have V9:=V8.still kb9
    have x9:=x8.Zc kb9
    have xB9:=xB8.Zc kb9
    have K9:=K8.Z4 b9
    have Tw:∃f',f=f'+1:=⟨f-1,by
     have:f≠0:=fun q=>by
      subst q
      have hj:j=L+1:=by omega
      have:=DR n0.known n0.log.length (L+2) fun j' hj'=>by
       by_cases q:j'<j
       ·exact hjs j' q
       ·have:j'=j:=by omega
        subst this
        rw[←jv,←bN,hx];rfl
      rw[←hL]at this
      omega
     omega⟩
    obtain⟨f',rfl⟩:=Tw
    have lg:YN (f'+1) m=((YN f' (U6 m y)).1,Tf m y++(YN f' (U6 m y)).2):=by
     rw[YN,hx]
    rw[lg]at g1 g2
    have Zfu:∀j',j'<j+1→(Xe n0.known ((n0.log.length+j':Nat):Int)).isSome=true:=fun j' hj'=>by
     by_cases q:j'<j
     ·exact hjs j' q
     ·have:j'=j:=by omega
      subst this
      rw[←jv,←bN,hx];rfl
    have ub:(m.queue.filter fun z=>decide (z≠y)).length≤m.queue.length:=List.length_filter_le _ _
    have mono:∀(G:Hp) (nn:Nd) (aa:NA) (oo:Ow),ZI oo G wb i nb aa nn→nn.log.length=m.log.length+1→n0.log.length+L+2-dd (hc G ⟨nb,11,none⟩)<n0.log.length+L+2-m.log.length:=fun G nn aa oo H hh=>by
     have RR:=Zy H.ZD.2 H.pt.store.len
     obtain⟨lp,lc,OT,wu⟩:=Ys.isSlice H.pt.log
     have:dd (hc G ⟨nb,11,none⟩)=nn.log.length:=by rw[RR.log,OT];rfl
     rw[this,hh]
     omega
    by_cases hy:y∈m.waiting
    case neg=>
     have e1:VL m.waiting y = -1:=by unfold VL;rw[if_neg hy]
     have e2:Tf m y=[]:=by unfold Tf;rw[if_neg hy]
     have e3:m.waiting.erase y=m.waiting:=List.erase_of_not_mem hy
     rw[e2]at g2
     have e4:U6 m y = { m with log:=m.log++[y],store:=D,queue:=m.queue.filter (fun z=>decide (z≠y)) }:=by unfold U6;rw[e3,←hDe]
     rw[e4]at g1 g2
     rw[List.nil_append]at g2
     simp -implicitDefEqProofs only[go_sem,↓reduceIte,e1]
     unfold Yy
     refine⟨⟨f50,f51,o3,_,Xn,_,ts,f',j+1,K9,M9,V9,by omega,bN,by simp[jv];omega,by simp only;omega,hmw,by omega,Zfu,g1,g2⟩,mono _ _ _ _ M9 (by simp)⟩
    have e1:0≤VL m.waiting y:=(Oe _ _).2 hy
    have e5:VL m.waiting y=(m.waiting.idxOf y:Nat):=by unfold VL;rw[if_pos hy]
    obtain⟨r,hr⟩:=Zu (m.waiting.idxOf y)
    have AH:r<m.waiting.length:=by rw[hr];exact List.idxOf_lt_length_of_mem hy
    rw[←hr]at e5
    have e2:Tf m y=[⟨m.me,y.c,y.s,RK m.store y,Kk m.store y⟩]:=by unfold Tf;rw[if_pos hy]
    have e3:m.waiting.erase y=m.waiting.take r++m.waiting.drop (r+1):=by
     rw[List.erase_eq_eraseIdx_of_idxOf,List.eraseIdx_eq_take_drop_succ]
     exact hr.symm
    rw[e2]at g2
    have R9:=Zy M9.ZD.2 Ma
    have z9:=Za M9.ZD.2
    simp -implicitDefEqProofs only[go_sem,↓reduceIte,e1,e5,f50,f51,f58,R9.waiting,z9]
    refine (DN T g9 o3 (.waiting i) _ m.waiting.length r _ M9.pt.waiting K9.ZV (uE _) AH (by omega)).use ?_
    rintro v10 g10 ⟨q10,gX⟩
    have wl:(m.waiting.erase y).length=m.waiting.length-1:=by rw[e3,List.length_append,List.length_take,List.length_drop];omega
    have Q10:Qz o3 (.waiting i) g10 v10 (m.waiting.erase y):=by
     unfold Qz
     rw[wl,e3,Ye,←VM Od _ _ (by omega),←VN Od _ _ (by omega)]
     exact q10
    obtain⟨p10,c10,rfl,_⟩:=Ys.isSlice Q10
    have b10:=M9.ZD.Zc gX (by intro e;cases e)
    obtain⟨qH,w11,M11,jx⟩:=(M9.pt.NZ gX Q10).write gX.ZV b10 ((YO b10.2 Ma).waiting (.slice p10 _ c10) rfl)
    have z10:=Za b10.2
    have V11:=(V9.Zc gX (by rintro t rfl;simp[Tg.of])).Zc jx (by rintro t rfl;simp[Tg.of])
    have x11:=(x9.Zc gX).Zc jx
    have Zfv:=(xB9.Zc gX).Zc jx
    have K11:Kp (QA i) o h o3 qH:=(K9.trans (gX.mono fun t q=>.inr (.inr (.inr (.inr (.inr (.inr q))))))).trans (jx.mono fun t q=>.inr (.inr (.inl q)))
    have R11:=Zy M11.ZD.2 Ma
    have z11:=Za M11.ZD.2
    have U11:=YT V11.ZD.2
    have Zof:=Za V11.ZD.2
    have rx1:hc qH ⟨g.size,1,none⟩=some (.int .i64 y.c):=Zg x11.2
    have rx2:hc qH ⟨g.size,2,none⟩=some (.int .i64 y.s):=Zg x11.2
    have rB:rd qH ⟨B,0,none⟩ 2=some [.int .i64 c1,.int .i64 c2]:=Zo Zfv.2 rfl
    have Zoi:=Za x11.2
    have Zoj:=Za Zfv.2
    simp -implicitDefEqProofs only[go_sem,↓reduceIte,w11,z10]
    refine VS.z (qH.size) [17,21] (.p 0 (.p 1 (.p 2 (.p 3 (.p 4 (.q 5 (.p 6 (.p 7 (.p 8 (.q 9 (.p 10 (.q 11 (.p 12 (.q 13 (.q 14 (.p 15 (.s 16 (.w 17 (.p 18 (.p 19 (.p 20 (.w 21 .nil)))))))))))))))))))))) mixed (by kernel_rfl) ?_
    simp -implicitDefEqProofs only[go_sem,↓reduceIte,f50,f51,f58,f5B,U11.told,R11.me,rx1,rx2,rB,z11,Zof,Zoi,Zoj]
    have oq:=ZW K11.ZV (.cells (VK ⟨m.me,y.c,y.s,c1,c2⟩).toArray 42)
    have V12:=V11.still oq
    refine N9 (l:=told++ts) (x:=⟨m.me,y.c,y.s,c1,c2⟩) V12.told oq.ZV Zb (by rw[List.length_append];omega) ?_
    intro p13 c13 o13 g13 q13 k13
    have xR:=V12.ZD.Zc k13 (by intro e;cases e)
    obtain⟨g14,w14,V14,k14⟩:=V12.db k13 q13 ((YT xR.2).xP (.slice p13 _ c13) rfl)
    have z13:=Za xR.2
    simp -implicitDefEqProofs only[go_sem,↓reduceIte,w14,z13]
    have M14:=((M11.still oq).Zc k13 (by rintro t rfl;simp[Tg.of])).Zc k14 (by rintro t rfl;simp[Tg.of])
    have K14:Kp (QA i) o h o13 g14:=(((K11.trans (ZC oq)).trans (k13.mono fun t q=>.inr (.inl q))).trans (k14.mono fun t q=>.inl q))
    have e4:U6 m y = { m with log:=m.log++[y],store:=D,queue:=m.queue.filter (fun z=>decide (z≠y)),waiting:=m.waiting.erase y }:=by unfold U6;rw[←hDe]
    rw[e4]at g1 g2
    rw[←UA,←I4]at g2
    obtain⟨ZAc,V15⟩:∃A,ZE o13 g14 wb Z7 A fl bad (told++(ts++[⟨m.me,y.c,y.s,c1,c2⟩])):=⟨_,by rw[←List.append_assoc];exact V14⟩
    rw[←List.append_assoc]at g2
    unfold Yy
    refine⟨⟨f50,f51,o13,_,_,_,ts++[⟨m.me,y.c,y.s,c1,c2⟩],f',j+1,K14,M14,V15,by omega,bN,by simp[jv];omega,by simp only;omega,by simp only;omega,by simp;omega,Zfu,g1,g2⟩,mono _ _ _ _ M14 (by simp)⟩
def Zfw (o:Ow) (h:Hp) (wb:Nat) (Z7:Nat→Nat) (fl:List Y9) (bad:Nat→Int) (told:List Sd) (h':Hp):Prop:=
 ∃o' Xn,Kp cY o h o' h'∧ZE o' h' wb Z7 Xn fl bad told
theorem df (T:World) (h:Hp) (o:Ow) (wb nb:Nat) (Z7:Nat→Nat) (me:Nat) (YC:WA) (fl:List Y9) (bad:Nat→Int) (told:List Sd) (b3 b4 b5 b7:Nat) (l:Y9) (w5 w:Value) (vs:List Vt) (d:Ug o h)
  (W:ZE o h wb Z7 YC fl bad told) (qG:hc h ⟨nb,0,none⟩=some (.int .i64 me)) (Vf:nb<h.size) (Ym:fl.length≤1000000000000)
  (x3:ZL o h b3 (.cells [Zn wb].toArray 117)) (x4:ZL o h b4 (.cells [Zn nb].toArray 124)) (x5:ZL o h b5 (.cells (YS l w5).toArray 163)) (x7:ZL o h b7 (.cells [w].toArray 129)) (iv:Wc o h w vs) :
  Zd Tryz.prog T 122 #[Zn b3,Zn b4,Zn b5,Zn b7] h fun v' h'=>Zfw o h wb Z7 (fl++[⟨1,me,l.Ju,l.b,T9,vs⟩]) bad told h':=by
 obtain⟨pw,cw,rfl⟩:=iv.isSlice
 refine Zd.Zi (args:=[_,_,_,_]) Tryz.func122 rfl rfl rfl rfl ?_
 unfold Zn
 have r3:hc h ⟨b3,0,none⟩=some (Zn wb):=Zg x3.2
 have r4:hc h ⟨b4,0,none⟩=some (Zn nb):=Zg x4.2
 have r5:hc h ⟨b5,1,none⟩=some (.int .i64 l.Ju):=Zg x5.2
 have r6:rd h ⟨b5,3,none⟩ 2=some [.int .i64 l.b.r,.int .i64 l.b.n]:=by rw[Z0 x5.2 (by simp[YS])];rfl
 have r7:hc h ⟨b7,0,none⟩=some (.slice pw vs.length cw):=Zg x7.2
 simp -implicitDefEqProofs only[go_sem,↓reduceIte,r3,r4,r5,r6,r7]
 refine (UI T h o wb nb Z7 me YC fl bad told l.Ju ⟨1,0,0,l.b,T9,vs⟩ _ d W qG Vf iv Ym).use ?_
 rintro v' h' ⟨o',Xn,k,_,W'⟩
 simp -implicitDefEqProofs only[go_sem,↓reduceIte]
 exact⟨o',Xn,k,W'⟩
theorem dg (T:World) (h:Hp) (o:Ow) (wb nb:Nat) (Z7:Nat→Nat) (me:Nat) (YC:WA) (fl:List Y9) (bad:Nat→Int) (told:List Sd) (b3 b4 b5:Nat) (l:Y9) (w5:Value) (d:Ug o h)
  (W:ZE o h wb Z7 YC fl bad told) (qG:hc h ⟨nb,0,none⟩=some (.int .i64 me)) (Vf:nb<h.size) (Ym:fl.length≤1000000000000)
  (x3:ZL o h b3 (.cells [Zn wb].toArray 117)) (x4:ZL o h b4 (.cells [Zn nb].toArray 124)) (x5:ZL o h b5 (.cells (YS l w5).toArray 163)) :
  Zd Tryz.prog T 127 #[Zn b3,Zn b4,Zn b5] h fun v' h'=>Zfw o h wb Z7 (fl++[⟨3,me,l.Ju,JI,l.v,[]⟩]) bad told h':=by
 refine Zd.Zi (args:=[_,_,_]) Tryz.func127 rfl rfl rfl rfl ?_
 unfold Zn
 have r3:hc h ⟨b3,0,none⟩=some (Zn wb):=Zg x3.2
 have r4:hc h ⟨b4,0,none⟩=some (Zn nb):=Zg x4.2
 have r5:hc h ⟨b5,1,none⟩=some (.int .i64 l.Ju):=Zg x5.2
 have r6:rd h ⟨b5,5,none⟩ 8=some (Zm l.v):=by rw[Z0 x5.2 (by simp[YS])];rfl
 unfold Zm at r6
 simp -implicitDefEqProofs only[go_sem,↓reduceIte,r3,r4,r5,r6]
 refine (UI T h o wb nb Z7 me YC fl bad told l.Ju ⟨3,0,0,JI,l.v,[]⟩ (.slice none 0 0) d W qG Vf (Im.nil _ _ _ _) Ym).use ?_
 rintro v' h' ⟨o',Xn,k,_,W'⟩
 simp -implicitDefEqProofs only[go_sem,↓reduceIte]
 exact⟨o',Xn,k,W'⟩
def ZaL (i:Nat) (t:Tg):Prop:=t=.world∨t=.Zj∨t=.node i∨t=.prom i∨t=.Xk i
theorem uG (T:World) (h:Hp) (o:Ow) (wb i nb:Nat) (Z7:Nat→Nat) (YC:WA) (fl:List Y9) (bad:Nat→Int) (told:List Sd) (a:NA) (n:Nd) (acc:Vi) (to:Int) (b:XO) (vs:List Vt) (b6 b4 b9:Nat) (u:Value) (d:Ug o h)
  (N:ZI o h wb i nb a n) (W:ZE o h wb Z7 YC fl bad told) (Ym:fl.length≤1000000000000)
  (x6:Sj o h b6 acc) (x4:ZL o h b4 (.cells [Zn nb].toArray 124)) (x9:ZL o h b9 (.cells [u].toArray 1)) (hu:nR o h wb nb u to b vs) :
  Zd Tryz.prog T 124 #[Zn b6,Zn b4,Zn b9] h fun v' h'=>∃o' a' Xn,Kp (ZaL i) o h o' h'∧ZI o' h' wb i nb a' { n with own:=acc }∧ZE o' h' wb Z7 Xn (fl++[⟨1,n.me,to,b,T9,vs⟩]) bad told:=by
 obtain⟨wa,xa,ia⟩:=x6
 obtain⟨pa,ca,rfl⟩:=ia.isSlice
 obtain⟨b3,An,b5,b7,l,w5,w,rfl,y3,y4,y5,rfl,rfl,y7,iv⟩:=hu
 have Vf:=Za N.ZD.2
 refine Zd.Zi (args:=[_,_,_]) Tryz.func124 rfl rfl rfl rfl ?_
 unfold Zn
 have r4:hc h ⟨b4,0,none⟩=some (Zn nb):=Zg x4.2
 have r6:rd h ⟨b6,0,none⟩ 3=some [.int .i64 acc.p.r,.int .i64 acc.p.n,.slice pa acc.l.length ca]:=Zo xa.2 rfl
 obtain⟨g1,w1,N1,k1⟩:=ZS.write (a:={ a with YL:=.slice pa acc.l.length ca }) (n:={ n with own:=acc }) { N.pt with YL:=ia } d N.ZD ((YO N.ZD.2 N.pt.store.len).own acc.p.r acc.p.n (.slice pa acc.l.length ca) rfl)
 have W1:=W.Zc k1 (by rintro t rfl;simp[Tg.of])
 have x91:=x9.Zc k1
 have r9:hc g1 ⟨b9,0,none⟩=some (Wj 122 [b3,An,b5,b7]):=Zg x91.2
 unfold Wj at r9
 simp only[List.map]at r9
 unfold Zn at r4 r9
 simp -implicitDefEqProofs only[go_sem,↓reduceIte,r4,r6,w1,Vf,r9]
 have R1:=Zy N1.ZD.2 N1.pt.store.len
 refine (df T g1 o wb nb Z7 n.me YC fl bad told b3 An b5 b7 l w5 w vs k1.ZV W1 R1.me (Za N1.ZD.2) Ym (y3.Zc k1) (y4.Zc k1) (y5.Zc k1) (y7.Zc k1) (iv.Zc k1)).use ?_
 rintro v' h' ⟨o',Xn,k,W'⟩
 simp -implicitDefEqProofs only[go_sem,↓reduceIte]
 exact⟨o',_,Xn,(k1.mono fun t q=>.inr (.inr (.inl q))).trans (k.mono fun t q=>q.elim .inl fun q=>.inr (.inl q)),N1.Zc k (by rintro t (rfl|rfl)<;>simp[Tg.of]),W'⟩
theorem uH (T:World) (h:Hp) (o:Ow) (wb i nb:Nat) (Z7:Nat→Nat) (YC:WA) (fl:List Y9) (bad:Nat→Int) (told:List Sd) (a:NA) (n:Nd) (acc:Vi) (to:Int) (x:Vt) (b6 b4 b9:Nat) (u:Value) (d:Ug o h)
  (N:ZI o h wb i nb a n) (W:ZE o h wb Z7 YC fl bad told) (Ym:fl.length≤1000000000000)
  (x6:Sj o h b6 acc) (x4:ZL o h b4 (.cells [Zn nb].toArray 124)) (x9:ZL o h b9 (.cells [u].toArray 1)) (hu:nT o h wb nb u to x) :
  Zd Tryz.prog T 130 #[Zn b6,Zn b4,Zn b9] h fun v' h'=>∃o' a' Xn,Kp (ZaL i) o h o' h'∧ZI o' h' wb i nb a' { n with own:=acc }∧ZE o' h' wb Z7 Xn (fl++[⟨3,n.me,to,JI,x,[]⟩]) bad told:=by
 obtain⟨wa,xa,ia⟩:=x6
 obtain⟨pa,ca,rfl⟩:=ia.isSlice
 obtain⟨b3,An,b5,l,w5,rfl,y3,y4,y5,rfl,rfl⟩:=hu
 have Vf:=Za N.ZD.2
 refine Zd.Zi (args:=[_,_,_]) Tryz.func130 rfl rfl rfl rfl ?_
 unfold Zn
 have r4:hc h ⟨b4,0,none⟩=some (Zn nb):=Zg x4.2
 have r6:rd h ⟨b6,0,none⟩ 3=some [.int .i64 acc.p.r,.int .i64 acc.p.n,.slice pa acc.l.length ca]:=Zo xa.2 rfl
 obtain⟨g1,w1,N1,k1⟩:=ZS.write (a:={ a with YL:=.slice pa acc.l.length ca }) (n:={ n with own:=acc }) { N.pt with YL:=ia } d N.ZD ((YO N.ZD.2 N.pt.store.len).own acc.p.r acc.p.n (.slice pa acc.l.length ca) rfl)
 have W1:=W.Zc k1 (by rintro t rfl;simp[Tg.of])
 have x91:=x9.Zc k1
 have r9:hc g1 ⟨b9,0,none⟩=some (Wj 127 [b3,An,b5]):=Zg x91.2
 unfold Wj at r9
 simp only[List.map]at r9
 unfold Zn at r4 r9
 simp -implicitDefEqProofs only[go_sem,↓reduceIte,r4,r6,w1,Vf,r9]
 have R1:=Zy N1.ZD.2 N1.pt.store.len
 refine (dg T g1 o wb nb Z7 n.me YC fl bad told b3 An b5 l w5 k1.ZV W1 R1.me (Za N1.ZD.2) Ym (y3.Zc k1) (y4.Zc k1) (y5.Zc k1)).use ?_
 rintro v' h' ⟨o',Xn,k,W'⟩
 simp -implicitDefEqProofs only[go_sem,↓reduceIte]
 exact⟨o',_,Xn,(k1.mono fun t q=>.inr (.inr (.inl q))).trans (k.mono fun t q=>q.elim .inl fun q=>.inr (.inl q)),N1.Zc k (by rintro t (rfl|rfl)<;>simp[Tg.of]),W'⟩
theorem QW.ins {o:Ow} {h:Hp} {k:Int} {w:Value} {vs:List Vt} (iv:Wc o h w vs):∀{pv:List (Int × Value)} {pr:List (Int × List Vt)},QW o h pv pr→QW o h (Go.V.ins pv k w) (Go.V.ins pr k vs):=by
 intro pv pr s
 induction s with
 | nil=>exact .cons ⟨rfl,iv⟩ .nil
 | @cons a b l m Gi _ ih=>
  obtain⟨a1,a2⟩:=a
  obtain⟨b1,b2⟩:=b
  obtain⟨rfl,h2⟩:=Gi
  show Et _ (if a1=k then (a1,w) :: l else (a1,a2) :: Go.V.ins l k w) (if a1=k then (a1,vs) :: m else (a1,b2) :: Go.V.ins m k vs)
  by_cases q:a1=k
  ·rw[if_pos q,if_pos q];exact .cons ⟨rfl,iv⟩ (by assumption)
  ·rw[if_neg q,if_neg q];exact .cons ⟨rfl,h2⟩ ih
theorem QW.length {o:Ow} {h:Hp} {pv:List (Int × Value)} {pr:List (Int × List Vt)} (s:QW o h pv pr):pv.length=pr.length:=by
 induction s with
 | nil=>rfl
 | cons _ _ ih=>simp[ih]
theorem QW.Xe {o:Ow} {h:Hp} {pv:List (Int × Value)} {pr:List (Int × List Vt)} (s:QW o h pv pr) (k:Int):(Go.V.Xe pv k=none∧Go.V.Xe pr k=none)∨∃w vs,Go.V.Xe pv k=some w∧Go.V.Xe pr k=some vs∧Wc o h w vs:=by
 induction s with
 | nil=>exact .inl ⟨rfl,rfl⟩
 | @cons a b l m Gi _ ih=>
  obtain⟨a1,a2⟩:=a
  obtain⟨b1,b2⟩:=b
  obtain⟨rfl,h2⟩:=Gi
  unfold Go.V.Xe
  by_cases q:a1=k
  ·rw[if_pos q,if_pos q];exact .inr ⟨_,_,rfl,rfl,h2⟩
  ·rw[if_neg q,if_neg q];exact ih
theorem YG.dh {o:Ow} {i:Nat} {h:Hp} {ra:RA} {r:Qn} (s:YG o i h ra r) (d:Ug o h) {k:Int} {w:Value} {vs:List Vt} (iv:Wc o h w vs) :
  Kp (fun t=>t=.prom i) o h o (h.setIfInBounds ra.pb (Xi (ins ra.pv k w)))∧YG o i (h.setIfInBounds ra.pb (Xi (ins ra.pv k w))) { ra with pv:=ins ra.pv k w } { r with prom:=ins r.prom k vs }:=by
 have kk:Kp (fun t=>t=.prom i) o h o (h.setIfInBounds ra.pb (Xi (ins ra.pv k w))):=(Kp.refl d (fun t=>t=.prom i)).set s.prom.1 rfl _
 exact⟨kk,s.ZD.Zc kk (by intro e;cases e),⟨s.prom.1,Zw s.prom.2⟩,QW.Zc (QW.ins iv s.Si) kk,s.prop.Zc kk (by intro e;cases e),s.Jv.Zc kk (by intro e;cases e),s.Tj.Zc kk (fun _ e=>by cases e),s.keys⟩
theorem ZS.gY {o o':Ow} {h h':Hp} {wb i nb:Nat} {a:NA} {n:Nd} (s:ZS o h wb i nb a n) (k:Kp (fun t=>t=.Xk i) o h o' h') (hp:n.ZT=none):ZS o' h' wb i nb a n:=
 ⟨s.data.Zc k,s.YL.Zc k,s.Zl.Zc k (fun t ht=>by rcases ht with rfl|rfl|rfl|rfl|⟨z,rfl⟩<;>intro e<;>cases e),s.known.Zc k (by intro e;cases e),s.log.Zc k (by intro e;cases e),s.queue.Zc k (by intro e;cases e),s.waiting.Zc k (by intro e;cases e),s.inbox.Zc k (by intro e;cases e),by
  have:=s.ZT
  rw[hp]at this ⊢
  exact this,s.store⟩
theorem Mb {n:Nd} {a:NA} {ra ra':RA} (r:Option Qn) (h:a.Zl=some ra) (hb:ra'.rb=ra.rb):Y8 { n with Zl:=r } { a with Zl:=some ra' } = Y8 n a:=by
 unfold Y8 Uw
 simp only[h,RL,hb]
def Zoo (i:Nat) (t:Tg):Prop:=t=.node i∨t=.prom i∨t=.Xk i
theorem uI (T:World) (h:Hp) (o:Ow) (wb i nb:Nat) (a:NA) (n:Nd) (acc:Vi) (vs:List Vt) (cur:Bool) (v:Value) (d:Ug o h)
  (N:ZI o h wb i nb a n) (hp:n.ZT=none) (hv:Zfo o h i nb a.Zl v acc vs cur) :
  ∃b6 b4 b7 b5,v=Wj 131 [b6,b4,b7,b5]∧Zd Tryz.prog T 131 #[Zn b6,Zn b4,Zn b7,Zn b5] h fun v' h'=>∃o' a',Kp (Zoo i) o h o' h'∧ZI o' h' wb i nb a' { n with own:=acc,Zl:=if cur=true then n.Zl.map (fun r=>{ r with prom:=ins r.prom n.me vs }) else n.Zl }:=by
 obtain⟨b6,b4,b7,b5,w,rb,rfl,⟨wa,xa,ia⟩,x4,x7,iv,x5,Zfx⟩:=hv
 obtain⟨pa,ca,rfl⟩:=ia.isSlice
 obtain⟨pw,cw,rfl⟩:=iv.isSlice
 refine⟨b6,b4,b7,b5,rfl,?_⟩
 have Vf:=Za N.ZD.2
 refine Zd.Zi (args:=[_,_,_,_]) Tryz.func131 rfl rfl rfl rfl ?_
 unfold Zn
 have r4:hc h ⟨b4,0,none⟩=some (Zn nb):=Zg x4.2
 have r6:rd h ⟨b6,0,none⟩ 3=some [.int .i64 acc.p.r,.int .i64 acc.p.n,.slice pa acc.l.length ca]:=Zo xa.2 rfl
 obtain⟨g1,w1,N1,k1⟩:=ZS.write (a:={ a with YL:=.slice pa acc.l.length ca }) (n:={ n with own:=acc }) { N.pt with YL:=ia } d N.ZD ((YO N.ZD.2 N.pt.store.len).own acc.p.r acc.p.n (.slice pa acc.l.length ca) rfl)
 unfold Zn at r4
 simp -implicitDefEqProofs only[go_sem,↓reduceIte,r4,r6,w1,Vf]
 have y4:=x4.Zc k1
 have y5:=x5.Zc k1
 have y7:=x7.Zc k1
 have q4:hc g1 ⟨b4,0,none⟩=some (Zn nb):=Zg y4.2
 have q5:hc g1 ⟨b5,0,none⟩=some (Zn rb):=Zg y5.2
 have q7:hc g1 ⟨b7,0,none⟩=some (.slice pw vs.length cw):=Zg y7.2
 unfold Zn at q4 q5
 have l4:=Za y4.2
 have l5:=Za y5.2
 have l7:=Za y7.2
 have R1:=Zy N1.ZD.2 N1.pt.store.len
 have lnb:=Za N1.ZD.2
 have uJ:=iv.Zc k1
 refine VS.z (g1.size) [9] (.q 0 (.p 1 (.p 2 (.q 3 (.q 4 (.p 5 (.p 6 (.q 7 (.q 8 (.w 9 .nil)))))))))) mixed (by kernel_rfl) ?_
 cases cur with
 | true=>
  obtain⟨ra,OV,rfl⟩:=Zfx
  have hR:=N1.pt.Zl
  have hO:({ a with YL:=.slice pa acc.l.length ca }:NA).Zl=some ra:=OV
  rw[hO]at hR
  cases hr:n.Zl with
  | none=>rw[show ({ n with own:=acc }:Nd).Zl=none from hr]at hR;exact hR.elim
  | some r=>
   rw[show ({ n with own:=acc }:Nd).Zl=some r from hr]at hR
   have hR:YG o i g1 ra r:=hR
   have rr:hc g1 ⟨ra.rb,2,none⟩=some (.map (some ra.pb)):=Zg hR.ZD.2
   have CO:=Za hR.ZD.2
   simp -implicitDefEqProofs only[go_sem,↓reduceIte,q4,q5,q7,l4,l5,l7,lnb,R1.me,rr,CO]
   rw[XN NX hR.prom.2]
   simp -implicitDefEqProofs only[go_sem,↓reduceIte]
   obtain⟨k2,R2⟩:=hR.dh k1.ZV (k:=n.me) uJ
   have k2':Kp (XA i) o g1 o _:=k2.mono fun t q=>.inr (.inl q)
   refine⟨o,{ ({ a with YL:=.slice pa acc.l.length ca }:NA) with Zl:=some { ra with pv:=ins ra.pv n.me (.slice pw vs.length cw) } },(k1.mono fun t q=>.inl q).trans (k2.mono fun t q=>.inr (.inl q)),?_,?_⟩
   ·have:=N1.ZD.Zc k2 (by intro e;cases e)
    rw[←Mb (some { r with prom:=ins r.prom n.me vs }) hO (ra':={ ra with pv:=ins ra.pv n.me (.slice pw vs.length cw) }) rfl]at this
    exact this
   ·exact ZS.Qg N1.pt k2' hO rfl R2
 | false=>
  obtain⟨cs,pb,pv,y1,y2,y3⟩:=Zfx
  have z1:=y1.Zc k1 (by intro e;cases e)
  have z3:=y3.Zc k1 (by intro e;cases e)
  have rr:hc g1 ⟨rb,2,none⟩=some (.map (some pb)):=by rw[Vn z1.2];exact y2
  have CO:=Za z1.2
  simp -implicitDefEqProofs only[go_sem,↓reduceIte,q4,q5,q7,l4,l5,l7,lnb,R1.me,rr,CO]
  rw[XN NX z3.2]
  simp -implicitDefEqProofs only[go_sem,↓reduceIte]
  have k2:Kp (fun t=>t=.Xk i) o g1 o (g1.setIfInBounds pb (Xi (ins pv n.me (.slice pw vs.length cw)))):=(Kp.refl k1.ZV (fun t=>t=.Xk i)).set z3.1 rfl _
  exact⟨o,_,(k1.mono fun t q=>.inl q).trans (k2.mono fun t q=>.inr (.inr q)),N1.ZD.Zc k2 (by intro e;cases e),N1.pt.gY k2 hp⟩
end Go.Proofs.YtkfhncfkagcamaaGreatDoor

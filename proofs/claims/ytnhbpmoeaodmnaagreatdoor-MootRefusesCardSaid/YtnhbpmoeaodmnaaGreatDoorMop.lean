/- The nodes of a cluster, in plain words: what each piece of the program makes of them. Definitions alone. -/
import Derived.Test.YtnhbpmoeaodmnaaGreatDoorOpn
import Derived.Test.YtnhbpmoeaodmnaaGreatDoorMix
import Derived.Test.YtnhbpmoeaodmnaaGreatDoorChw
import Derived.Test.YtnhbpmoeaodmnaaGreatDoorPik
import Derived.Test.YtnhbpmoeaodmnaaGreatDoorW25
namespace Go.Proofs.YtnhbpmoeaodmnaaGreatDoor
open Go Go.V
set_option linter.unusedSimpArgs false
set_option linter.unusedVariables false
deriving instance DecidableEq for Bal
deriving instance DecidableEq for Vt
deriving instance DecidableEq for Cmv
abbrev Cm:=Cmv
def cm0:Cm:=⟨0,0,0,0,0⟩
def Cmv.C (x:Cmv):List Value:=cmdC x.k x.c x.s x.n x.v
def Cmv.err (x:Cmv):Int:=cmdErr x.k x.c x.s x.n x.v
def Vt.cm (v:Vt):Cm:=⟨v.k,v.c,v.s,v.nm,v.v⟩
def vtOf (s:Int) (b:Bal) (x:Cm):Vt:=⟨s,b,x.k,x.c,x.s,x.n,x.v⟩
def bal0:Bal:=⟨0,0⟩
structure Ltr where
 kind:Int
 frm:Int
 to:Int
 b:Bal
 v:Vt
 vs:List Vt
structure Rgn where
 b:Bal
 prom:List (Int × List Vt)
 begun:Bool
 prop:List (Int × Cm)
 vts:List (Int × List (Int × Unit))
inductive Pnd where
 | pro (a:Acp) (to:Int) (b:Bal) (vs:List Vt)
 | vot (a:Acp) (to:Int) (v:Vt)
 | own (a:Acp) (vs:List Vt) (cur:Bool)
structure Nd where
 me:Nat
 up:Bool
 data:List Nat
 syn:Int
 own:Acp
 heard:Bal
 reign:Option Rgn
 known:List (Int × Cm)
 log:List Cm
 store:List Value
 queue:List Cm
 waiting:List Cm
 inbox:List Ltr
 pend:Option Pnd
 turn:Int
structure Tld where
 node:Int
 c:Int
 s:Int
 code:Int
 val:Int
structure Wd where
 nodes:Nat→Nd
 flying:List Ltr
 bad:Nat→Int
 told:List Tld
structure Out where
 n:Nd
 ls:List Ltr
 ts:List Tld
def prepared (n:Nd) (l:Ltr):Out:=
 if prErr n.own.p n.own.l l.b≠0 then ⟨n,[⟨7,n.me,l.frm,n.own.p,vt0,[]⟩],[]⟩
 else if n.own.p=l.b then ⟨n,[⟨1,n.me,l.frm,l.b,vt0,n.own.l⟩],[]⟩
 else if proErr n.data n.syn l.b≠0 then ⟨n,[],[]⟩
 else ⟨{ n with data:=n.data++frmS (proB l.b),pend:=some (.pro ⟨l.b,n.own.l⟩ l.frm l.b n.own.l) },[],[]⟩
def asked (n:Nd) (l:Ltr):Out:=
 if acErr n.own.p n.own.l l.v≠0 then ⟨n,[⟨7,n.me,l.frm,n.own.p,vt0,[]⟩],[]⟩
 else if l.v∈n.own.l then ⟨n,[⟨3,n.me,l.frm,bal0,l.v,[]⟩],[]⟩
 else if votErr n.data n.syn l.v≠0 then ⟨n,[],[]⟩
 else ⟨{ n with data:=n.data++frmS (votB l.v),pend:=some (.vot ⟨l.v.b,insV n.own.l l.v⟩ l.frm l.v) },[],[]⟩
def doSt (st:List Value) (x:Cm):List Value:=if chnE st x=0 then (doneC st x).cells else storeZ
def doCode (st:List Value) (x:Cm):Int:=if chnE st x=0 then (doneC st x).code else 0
def doVal (st:List Value) (x:Cm):Int:=if chnE st x=0 then (doneC st x).val else 0
def learnN (n:Nd) (x:Cm):Nd:={ n with log:=n.log++[x],store:=doSt n.store x,queue:=n.queue.filter (fun y=>decide (y≠x)),waiting:=n.waiting.erase x }
def learnT (n:Nd) (x:Cm):List Tld:=if x∈n.waiting then [⟨n.me,x.c,x.s,doCode n.store x,doVal n.store x⟩] else []
def learnGo:Nat→Nd→Nd × List Tld
 | 0,n=>(n,[])
 | k+1,n=>match lkp n.known n.log.length with
  | none=>(n,[])
  | some x=>((learnGo k (learnN n x)).1,learnT n x++(learnGo k (learnN n x)).2)
def learnK (n:Nd) (s:Int) (x:Cm):Nd:={ n with known:=ins n.known s x }
def learn (n:Nd) (s:Int) (x:Cm):Out:=
 ⟨(learnGo ((learnK n s x).known.length+1) (learnK n s x)).1,[],(learnGo ((learnK n s x).known.length+1) (learnK n s x)).2⟩
def gotP (n:Nd) (r:Rgn) (l:Ltr):Nd:={ n with reign:=some { r with prom:=ins r.prom l.frm l.vs } }
def gotS (r:Rgn) (l:Ltr):List (Int × Unit):=ins ((lkp r.vts l.v.slot).getD []) l.frm ()
def gotV (n:Nd) (r:Rgn) (l:Ltr):Nd:={ n with reign:=some { r with vts:=ins r.vts l.v.slot (gotS r l) } }
def gathered (n:Nd) (l:Ltr):Out:=
 match n.reign with
 | none=>⟨n,[],[]⟩
 | some r=>
  if l.kind=1 then (if l.b=r.b then ⟨gotP n r l,[],[]⟩ else ⟨n,[],[]⟩)
  else if l.v.b≠r.b then ⟨n,[],[]⟩
  else if 5<2*(gotS r l).length then learn (gotV n r l) l.v.slot l.v.cm
  else ⟨gotV n r l,[],[]⟩
def add (n:Nd) (x:Cm):Nd:=if x∈n.queue∨x∈n.log then n else { n with queue:=n.queue++[x] }
def notes (n:Nd) (l:Ltr):Nd:=if below n.heard l.b then { n with heard:=l.b } else n
def tells (n:Nd) (l:Ltr):Out:=
 match lkp n.known l.v.slot with
 | some x=>⟨notes n l,[⟨6,n.me,l.frm,bal0,vtOf l.v.slot bal0 x,[]⟩],[]⟩
 | none=>⟨notes n l,[],[]⟩
def handle (n:Nd) (l:Ltr):Out:=
 if l.kind=0 then prepared n l else if l.kind=1∨l.kind=3 then gathered n l else if l.kind=2 then asked n l
 else if l.kind=4 then ⟨add n l.v.cm,[],[]⟩ else if l.kind=5 then tells n l else if l.kind=6 then learn n l.v.slot l.v.cm else ⟨notes n l,[],[]⟩
def lists5 (r:Rgn):List (List Vt):=(List.range 5).map fun (m:Nat)=>(lkp r.prom (m:Int)).getD []
def topV (l:List Vt):Int:=l.foldl (fun t v=>if t<v.slot then v.slot else t) (-1)
def pickC (LL:List (List Vt)) (s:Int):Cm:=if pickErr s LL.flatten=0 then (bestOf s LL.flatten).cm else cm0
def begin1 (n:Nd) (LL:List (List Vt)) (pr:List (Int × Cm)) (s:Nat):List (Int × Cm):=if lkp n.known (s:Int)=none then ins pr (s:Int) (pickC LL s) else pr
def beginR (n:Nd) (r:Rgn):Rgn:=
 { r with prop:=(List.range' n.log.length ((topV (lists5 r).flatten+1).toNat - n.log.length)).foldl (begin1 n (lists5 r)) r.prop,begun:=true }
def freeGo (n:Nd) (r:Rgn) (x:Cm):Nat→Nat→Option Nat
 | 0,_=>none
 | k+1,s=>if lkp r.prop (s:Int)=some x∨lkp n.known (s:Int)=some x then none
  else if lkp r.prop (s:Int)=none∧lkp n.known (s:Int)=none then some s else freeGo n r x k (s+1)
def free (n:Nd) (r:Rgn) (x:Cm):Option Nat:=freeGo n r x (40 - n.log.length) n.log.length
def prop1 (n:Nd) (r:Rgn) (x:Cm):Rgn:=match free n r x with | some s=>{ r with prop:=ins r.prop (s:Int) x } | none=>r
def propAll (n:Nd) (r:Rgn) (l:List Cm):Rgn:=l.foldl (prop1 n) r
def prepLs (n:Nd) (r:Rgn):List Ltr:=(List.range 5).flatMap fun (m:Nat)=>if lkp r.prom (m:Int)=none then [⟨0,n.me,m,r.b,vt0,[]⟩] else []
def accL (n:Nd) (r:Rgn) (s:Nat) (x:Cm) (m:Nat):List Ltr:=if lkp ((lkp r.vts (s:Int)).getD []) (m:Int)=none then [⟨2,n.me,m,bal0,vtOf s r.b x,[]⟩] else []
def accS (n:Nd) (r:Rgn) (s:Nat):List Ltr:=match lkp r.prop (s:Int) with
 | some x=>if lkp n.known (s:Int)=none then (List.range 5).flatMap (accL n r s x) else []
 | none=>[]
def accLs (n:Nd) (r:Rgn):List Ltr:=(List.range 40).flatMap (accS n r)
def ruleR (n:Nd) (r:Rgn):Rgn:=propAll n (if r.begun=true then r else beginR n r) n.queue
def rule (n:Nd) (r:Rgn):Out:=
 if below n.own.p r.b then
  (if proErr n.data n.syn r.b≠0 then ⟨n,[],[]⟩ else
    ⟨{ n with data:=n.data++frmS (proB r.b),pend:=some (.own (if prErr n.own.p n.own.l r.b=0 then ⟨r.b,n.own.l⟩ else acp0) (if prErr n.own.p n.own.l r.b=0 then n.own.l else []) true) },[],[]⟩)
 else if ¬ 5<2*r.prom.length then ⟨n,prepLs n r,[]⟩
 else ⟨{ n with reign:=some (ruleR n r) },accLs n (ruleR n r),[]⟩
def still (n:Nd):Nd:=match n.reign with | some r=>if below r.b n.own.p then { n with reign:=none } else n | none=>n
def fwdLs (n:Nd):List Ltr:=n.queue.map fun x=>⟨4,n.me,n.own.p.n,bal0,vtOf 0 bal0 x,[]⟩
def duty1 (n:Nd):Out:=match n.reign with
 | some r=>rule n r
 | none=>if 0<n.own.p.r∧n.own.p.n≠n.me then ⟨n,fwdLs n,[]⟩ else ⟨n,[],[]⟩
def bestB (n:Nd):Bal:=if below n.own.p n.heard then n.heard else n.own.p
def turned (n:Nd):Nd:={ n with turn:=(n.turn+1) % 5 }
def needLs (n:Nd):List Ltr:=if n.turn≠n.me∧n.log.length<40 then [⟨5,n.me,n.turn,bestB n,vtOf n.log.length bal0 cm0,[]⟩] else []
def duty (n:Nd):Out:=
 if (duty1 (still n)).n.pend.isSome=true then duty1 (still n)
 else ⟨turned (duty1 (still n)).n,(duty1 (still n)).ls++needLs (turned (duty1 (still n)).n),[]⟩
def synced (n:Nd):Nd:={ n with data:=if tapeOk n.data n.syn then n.data else [],syn:=if tapeOk n.data n.syn then (n.data.length:Int) else 0,pend:=none }
def finish (n:Nd):Pnd→Out
 | .pro a to b vs=>⟨{ n with own:=a },[⟨1,n.me,to,b,vt0,vs⟩],[]⟩
 | .vot a to v=>⟨{ n with own:=a },[⟨3,n.me,to,bal0,v,[]⟩],[]⟩
 | .own a vs cur=>⟨{ n with own:=a,reign:=if cur=true then n.reign.map (fun r=>{ r with prom:=ins r.prom n.me vs }) else n.reign },[],[]⟩
def drain:Nd→List Ltr→Out
 | n,[]=>⟨{ n with inbox:=[] },[],[]⟩
 | n,l :: k=>if n.pend.isSome=true then ⟨{ n with inbox:=l :: k },[],[]⟩
  else ⟨(drain (handle { n with inbox:=k } l).n k).n,(handle { n with inbox:=k } l).ls++(drain (handle { n with inbox:=k } l).n k).ls,(handle { n with inbox:=k } l).ts++(drain (handle { n with inbox:=k } l).n k).ts⟩
def step (n:Nd):Out:=
 if n.up=true then (match n.pend with
  | some p=>finish (synced n) p
  | none=>if (drain n n.inbox).n.pend.isSome=true then drain n n.inbox
   else ⟨(duty (drain n n.inbox).n).n,(drain n n.inbox).ls++(duty (drain n n.inbox).n).ls,(drain n n.inbox).ts++(duty (drain n n.inbox).n).ts⟩)
 else ⟨n,[],[]⟩
def blank (i:Nat) (up:Bool) (data:List Nat) (syn:Int) (own:Acp):Nd:=⟨i,up,data,syn,own,bal0,none,[],[],storeZ,[],[],[],none,0⟩
def leadB (n:Nd):Bal:=⟨match n.reign with
 | some r=>max (max n.own.p.r n.heard.r+1) (r.b.r+1)
 | none=>max n.own.p.r n.heard.r+1,n.me⟩
def stale:Option Pnd→Option Pnd
 | some (.own a vs _)=>some (.own a vs false)
 | p=>p
def lead (n:Nd):Nd:=if n.up=false∨65536<(leadB n).r then n else { n with reign:=some ⟨leadB n,[],false,[],[]⟩,pend:=stale n.pend }
def opnCm (rc:List Nat) (now:Int):Cm:=if opnErr rc now=0 then ⟨cmdI ((opnPl rc).drop 22) 0,cmdI ((opnPl rc).drop 22) 1,cmdI ((opnPl rc).drop 22) 2,cmdI ((opnPl rc).drop 22) 3,cmdI ((opnPl rc).drop 22) 4⟩ else cm0
def recGo (l:List Nat):Nat→Acp→Nat→Acp × Nat
 | 0,a,k=>(a,k)
 | f+1,a,k=>match recStep l a k with
  | none=>(a,k)
  | some x=>recGo l f x.1 x.2
def recAll (l:List Nat):Acp × Nat:=recGo l (l.length+1) acp0 0
def crashLn (l:List Nat) (n k:Int):Int:=n+(if (l.length:Int) - n<k then (l.length:Int) - n else k)
def crashed (i:Nat) (n:Nd) (keep:Int):Nd:=
 if n.up=true then (if tapeOk n.data n.syn∧0≤keep then blank i false (n.data.take (crashLn n.data n.syn keep).toNat) (crashLn n.data n.syn keep) acp0 else blank i false [] 0 acp0) else n
def repD (l:List Nat) (n:Int):List Nat:=if tapeOk l n then l.take (recAll l).2 else []
def repN (l:List Nat) (n:Int):Int:=if tapeOk l n then (if ((recAll l).2:Int)<n then ((recAll l).2:Int) else n) else 0
def started (i:Nat) (n:Nd):Nd:=
 if n.up=true then n else blank i true (repD n.data n.syn) (repN n.data n.syn) (if tapeOk (repD n.data n.syn) (repN n.data n.syn) then (recAll (repD n.data n.syn)).1 else acp0)
structure Ac where
 kind:Int
 node:Nat
 at':Nat
 keep:Int
 data:List Nat
def Wd.set (w:Wd) (i:Nat) (n:Nd):Wd:={ w with nodes:=fun j=>if j=i then n else w.nodes j }
def Wd.out (w:Wd) (i:Nat) (o:Out):Wd:={ nodes:=fun j=>if j=i then o.n else w.nodes j,flying:=w.flying++o.ls,bad:=w.bad,told:=w.told++o.ts }
def come (w:Wd) (l:Ltr):Wd:=if (w.nodes l.to.toNat).up=true then w.set l.to.toNat { w.nodes l.to.toNat with inbox:=(w.nodes l.to.toNat).inbox++[l] } else w
def pick (w:Wd) (at':Nat) (comes stays:Bool):Wd:=
 match w.flying[at' % w.flying.length]? with
 | none=>w
 | some l=>if comes=true then come (if stays=true then w else { w with flying:=w.flying.eraseIdx (at' % w.flying.length) }) l else (if stays=true then w else { w with flying:=w.flying.eraseIdx (at' % w.flying.length) })
def addQ (n:Nd) (x:Cm):Nd:=if x∈n.waiting then n else { n with waiting:=n.waiting++[x] }
def submit (w:Wd) (i:Nat) (data:List Nat):Wd:=
 if (w.nodes i).up=true then
  (if opnErr data (w.nodes i).log.length≠0 then { w with bad:=fun j=>if j=i then w.bad i+1 else w.bad j }
  else if opnCm data (w.nodes i).log.length∈(w.nodes i).log then
   { w with told:=w.told++[⟨(w.nodes i).me,(opnCm data (w.nodes i).log.length).c,(opnCm data (w.nodes i).log.length).s,doCode (w.nodes i).store (opnCm data (w.nodes i).log.length),doVal (w.nodes i).store (opnCm data (w.nodes i).log.length)⟩] }
  else w.set i (addQ (add (w.nodes i) (opnCm data (w.nodes i).log.length)) (opnCm data (w.nodes i).log.length)))
 else w
def act (w:Wd) (a:Ac):Wd:=
 if a.kind=1 then submit w a.node a.data
 else if a.kind=2 then w.set a.node (lead (w.nodes a.node))
 else if a.kind=3 then w.out a.node (step (w.nodes a.node))
 else if a.kind=4∨a.kind=5∨a.kind=6 then pick w a.at' (decide (a.kind≠5)) (decide (a.kind=6))
 else if a.kind=7 then w.flying.foldl come { w with flying:=[] }
 else if a.kind=8 then w.set a.node (crashed a.node (w.nodes a.node) a.keep)
 else w.set a.node (started a.node (w.nodes a.node))
def world0:Wd:=⟨fun i=>blank i true [] 0 acp0,[],fun _=>0,[]⟩
def runW (l:List Ac):Wd:=l.foldl act world0
set_option maxRecDepth 100000
@[go_sem] theorem tmiCm:tmi Tryz.prog 65=some 77:=by kernel_rfl
@[go_sem] theorem tmiVs:tmi Tryz.prog 119=some 61:=by kernel_rfl
@[go_sem] theorem tmiMm:tmi Tryz.prog 120=some 175:=by kernel_rfl
@[go_sem] theorem tmiUn:tmi Tryz.prog 175=some 176:=by kernel_rfl
@[go_sem] theorem tmiFn:tmi Tryz.prog 151=some 150:=by kernel_rfl
@[go_sem] theorem tzvCm:tzv Tryz.prog 77=some (.agg cm0.C.toArray):=by kernel_rfl
@[go_sem] theorem tzvVs:tzv Tryz.prog 61=some (.slice none 0 0):=by kernel_rfl
@[go_sem] theorem tzvMm:tzv Tryz.prog 175=some (.map none):=by kernel_rfl
@[go_sem] theorem tzvUn:tzv Tryz.prog 176=some (.agg #[]):=by kernel_rfl
@[go_sem] theorem tzvFn:tzv Tryz.prog 150=some .nilFunc:=by kernel_rfl
@[go_sem] theorem tkpR:tkp Tryz.prog 64=true:=by kernel_rfl
@[go_sem] theorem tkmS:tkm Tryz.prog 175=true:=by kernel_rfl
@[go_sem] theorem tkfF:tkf Tryz.prog 1=true:=by kernel_rfl
inductive Tg where
 | world
 | nodes
 | flying
 | told
 | node (i:Nat)
 | known (i:Nat)
 | log (i:Nat)
 | queue (i:Nat)
 | waiting (i:Nat)
 | inbox (i:Nat)
 | reign (i:Nat)
 | prom (i:Nat)
 | prop (i:Nat)
 | vts (i:Nat)
 | vset (i:Nat) (s:Int)
 | stale (i:Nat)
def Tg.of:Tg→Option Nat
 | .world=>none
 | .nodes=>none
 | .flying=>none
 | .told=>none
 | .node i=>some i
 | .known i=>some i
 | .log i=>some i
 | .queue i=>some i
 | .waiting i=>some i
 | .inbox i=>some i
 | .reign i=>some i
 | .prom i=>some i
 | .prop i=>some i
 | .vts i=>some i
 | .vset i _=>some i
 | .stale i=>some i
abbrev Ow:=Nat→Option Tg
structure Im (o:Ow) (n:Nat) (h:Hp) (v:Value) (m:Nat) (cs:List Value):Prop where
 sl:Sl n h v m cs
 fits:∃ p c,v=.slice p m c∧m≤c
 free:∀ b,blkOf v=some b→b<h.size∧o b=none
theorem Im.keep {S:Tg→Prop} {o o':Ow} {n m:Nat} {h h':Hp} {v:Value} {cs:List Value} (s:Im o n h v m cs) (k:Kp S o h o' h'):Im o' n h' v m cs:=by
 obtain ⟨⟨p,c,rfl,hl,hcc⟩,⟨p',c',he,hm⟩,hf⟩:=s
 simp only [Value.slice.injEq,true_and] at he
 obtain ⟨rfl,rfl⟩:=he
 have hf':∀ b,blkOf (.slice p m c)=some b→b<h.size∧o b=none∧h'[b]? = h[b]? ∧ o' b=none:=fun b hb=>by
  obtain ⟨h1,h2⟩:=hf b hb
  obtain ⟨h3,h4⟩:=k.keep b h1 fun t ht=>by rw [h2] at ht; cases ht
  exact ⟨h1,h2,h3,by rw [h4,h2]⟩
 refine ⟨⟨p,c,rfl,hl,fun hne=>?_⟩,⟨p,c,rfl,hm⟩,fun b hb=>⟨Nat.lt_of_lt_of_le (hf' b hb).1 k.size,(hf' b hb).2.2.2⟩⟩
 obtain ⟨b,off,rfl,hcs⟩:=hcc hne
 have hc0:c≠0:=by
  intro e
  have:m=0:=by omega
  subst this
  exact hne (List.eq_nil_of_length_eq_zero (by simpa using hl))
 have hb:blkOf (.slice (some ⟨b,off,none⟩) m c)=some b:=by simp [blkOf,hc0]
 refine ⟨b,off,rfl,fun i hi=>?_⟩
 have:=hcs i hi
 unfold hc at this ⊢
 rw [(hf' b hb).2.2.1]
 exact this
theorem Im.of_own {o:Ow} {B n m:Nat} {E:TypeId} {h:Hp} {v:Value} {cs:List Value} (s:Own B E n h v m cs) (hd:∀ b,B≤b→o b=none):Im o n h v m cs:=by
 refine ⟨s.sl,?_,fun b hb=>?_⟩
 ·rcases s with ⟨⟨p,rfl⟩,rfl,_⟩ | ⟨b,cap,sp,_,rfl,_,_,_,hm⟩
  ·exact ⟨p,0,rfl,Nat.le_refl _⟩
  ·exact ⟨_,cap,rfl,hm⟩
 ·exact ⟨s.lt b hb,hd b (s.blk b hb)⟩
theorem Im.nil (o:Ow) (n:Nat) (h:Hp) (p:Option Addr):Im o n h (.slice p 0 0) 0 []:=
 ⟨⟨p,0,rfl,by simp,fun hne=>absurd rfl hne⟩,⟨p,0,rfl,Nat.le_refl _⟩,fun b hb=>by cases p <;> simp [blkOf] at hb⟩
def ImV (o:Ow) (h:Hp) (v:Value) (l:List Vt):Prop:=Im o 8 h v l.length (encs voteC l)
def ImB (o:Ow) (h:Hp) (v:Value) (l:List Nat):Prop:=Im o 1 h v l.length (l.map bv)∧∀ x∈l,x<256
theorem ImV.ts {o:Ow} {h:Hp} {v:Value} {l:List Vt} (s:ImV o h v l):Ts voteC 8 h v l:=⟨Im.sl s⟩
theorem ImB.bs {o:Ow} {h:Hp} {v:Value} {l:List Nat} (s:ImB o h v l):Bs h v l:=⟨s.1.sl,s.2⟩
theorem ImV.keep {S:Tg→Prop} {o o':Ow} {h h':Hp} {v:Value} {l:List Vt} (s:ImV o h v l) (k:Kp S o h o' h'):ImV o' h' v l:=Im.keep s k
theorem ImB.keep {S:Tg→Prop} {o o':Ow} {h h':Hp} {v:Value} {l:List Nat} (s:ImB o h v l) (k:Kp S o h o' h'):ImB o' h' v l:=⟨s.1.keep k,s.2⟩
def ltC (l:Ltr) (w:Value):List Value:=[.int .i64 l.kind,.int .i64 l.frm,.int .i64 l.to,.int .i64 l.b.r,.int .i64 l.b.n,.int .i64 l.v.slot,.int .i64 l.v.b.r,.int .i64 l.v.b.n,.int .i64 l.v.k,.int .i64 l.v.c,.int .i64 l.v.s,.int .i64 l.v.nm,.int .i64 l.v.v,w]
def lwC (x:Ltr × Value):List Value:=ltC x.1 x.2
def tldC (t:Tld):List Value:=[.int .i64 t.node,.int .i64 t.c,.int .i64 t.s,.int .i64 t.code,.int .i64 t.val]
def ptrV (b:Nat):Value:=.pointer (some ⟨b,0,none⟩)
def cmA (x:Cm):Value:=.agg x.C.toArray
def CmsAt (o:Ow) (t:Tg) (h:Hp) (v:Value) (l:List Cm):Prop:=OwnT o t 77 5 h v l.length (encs Cmv.C l)
def LtsAt (o:Ow) (t:Tg) (h:Hp) (v:Value) (l:List Ltr):Prop:=
 ∃ xs:List (Ltr × Value),xs.map (·.1)=l∧OwnT o t 98 14 h v xs.length (encs lwC xs)∧∀ x∈xs,ImV o h x.2 x.1.vs
theorem CmsAt.keep {S:Tg→Prop} {o o':Ow} {t:Tg} {h h':Hp} {v:Value} {l:List Cm} (s:CmsAt o t h v l) (k:Kp S o h o' h') (hn:¬ S t):CmsAt o' t h' v l:=OwnT.keep s k hn
theorem LtsAt.keep {S:Tg→Prop} {o o':Ow} {t:Tg} {h h':Hp} {v:Value} {l:List Ltr} (s:LtsAt o t h v l) (k:Kp S o h o' h') (hn:¬ S t):LtsAt o' t h' v l:=by
 obtain ⟨xs,h1,h2,h3⟩:=s
 exact ⟨xs,h1,h2.keep k hn,fun x hx=>(h3 x hx).keep k⟩
def MapAt (o:Ow) (t:Tg) (h:Hp) (b:Nat) (l:List (Int × Value)):Prop:=o b=some t∧h[b]? = some (mapO l)
theorem MapAt.keep {S:Tg→Prop} {o o':Ow} {t:Tg} {h h':Hp} {b:Nat} {l:List (Int × Value)} (s:MapAt o t h b l) (k:Kp S o h o' h') (hn:¬ S t):MapAt o' t h' b l:=by
 have hn':∀ u,o b=some u→¬ S u:=fun u hu=>by rw [s.1] at hu; cases hu; exact hn
 exact ⟨by rw [k.own s.2 hn',s.1],k.get s.2 hn'⟩
def BlkAt (o:Ow) (t:Tg) (h:Hp) (b:Nat) (x:Obj):Prop:=o b=some t∧h[b]? = some x
theorem BlkAt.keep {S:Tg→Prop} {o o':Ow} {t:Tg} {h h':Hp} {b:Nat} {x:Obj} (s:BlkAt o t h b x) (k:Kp S o h o' h') (hn:¬ S t):BlkAt o' t h' b x:=by
 have hn':∀ u,o b=some u→¬ S u:=fun u hu=>by rw [s.1] at hu; cases hu; exact hn
 exact ⟨by rw [k.own s.2 hn',s.1],k.get s.2 hn'⟩
def BoxAt (o:Ow) (h:Hp) (b:Nat) (x:Obj):Prop:=o b=none∧h[b]? = some x
theorem BoxAt.keep {S:Tg→Prop} {o o':Ow} {h h':Hp} {b:Nat} {x:Obj} (s:BoxAt o h b x) (k:Kp S o h o' h'):BoxAt o' h' b x:=(k.free s.2 s.1).symm
def PromAt (o:Ow) (h:Hp) (pv:List (Int × Value)) (pr:List (Int × List Vt)):Prop:=Al2 (fun x y=>x.1=y.1∧ImV o h x.2 y.2) pv pr
theorem PromAt.keep {S:Tg→Prop} {o o':Ow} {h h':Hp} {pv:List (Int × Value)} {pr:List (Int × List Vt)} (s:PromAt o h pv pr) (k:Kp S o h o' h'):PromAt o' h' pv pr:=by
 induction s with
 | nil=>exact .nil
 | cons a _ ih=>exact .cons ⟨a.1,a.2.keep k⟩ ih
def unC (l:List (Int × Unit)):List (Int × Value):=mapV (fun _=>.agg #[]) l
def VtsAt (o:Ow) (i:Nat) (h:Hp) (sv:List (Int × Nat)) (vt:List (Int × List (Int × Unit))):Prop:=Al2 (fun x y=>x.1=y.1∧MapAt o (.vset i y.1) h x.2 (unC y.2)) sv vt
theorem VtsAt.keep {S:Tg→Prop} {o o':Ow} {i:Nat} {h h':Hp} {sv:List (Int × Nat)} {vt:List (Int × List (Int × Unit))} (s:VtsAt o i h sv vt) (k:Kp S o h o' h') (hn:∀ s,¬ S (.vset i s)):VtsAt o' i h' sv vt:=by
 induction s with
 | nil=>exact .nil
 | cons a _ ih=>exact .cons ⟨a.1,a.2.keep k (hn _)⟩ ih
def mpV (b:Nat):Value:=.map (some b)
structure RA where
 rb:Nat
 pb:Nat
 qb:Nat
 vb:Nat
 pv:List (Int × Value)
 sv:List (Int × Nat)
def rgnC (r:Rgn) (a:RA):List Value:=[.int .i64 r.b.r,.int .i64 r.b.n,.map (some a.pb),.bool r.begun,.map (some a.qb),.map (some a.vb)]
structure RgnAt (o:Ow) (i:Nat) (h:Hp) (a:RA) (r:Rgn):Prop where
 blk:BlkAt o (.reign i) h a.rb (.cells (rgnC r a).toArray 122)
 prom:MapAt o (.prom i) h a.pb a.pv
 proms:PromAt o h a.pv r.prom
 prop:MapAt o (.prop i) h a.qb (mapV cmA r.prop)
 vts:MapAt o (.vts i) h a.vb (mapV mpV a.sv)
 sets:VtsAt o i h a.sv r.vts
 keys:(a.sv.map (·.1)).Nodup
def rgnTags (i:Nat) (t:Tg):Prop:=t=.reign i∨t=.prom i∨t=.prop i∨t=.vts i∨∃ s,t=.vset i s
theorem RgnAt.keep {S:Tg→Prop} {o o':Ow} {i:Nat} {h h':Hp} {a:RA} {r:Rgn} (s:RgnAt o i h a r) (k:Kp S o h o' h') (hn:∀ t,rgnTags i t→¬ S t):RgnAt o' i h' a r:=
 ⟨s.blk.keep k (hn _ (.inl rfl)),s.prom.keep k (hn _ (.inr (.inl rfl))),s.proms.keep k,s.prop.keep k (hn _ (.inr (.inr (.inl rfl)))),s.vts.keep k (hn _ (.inr (.inr (.inr (.inl rfl))))),s.sets.keep k (fun s=>hn _ (.inr (.inr (.inr (.inr ⟨s,rfl⟩))))),s.keys⟩
def rgnV:Option RA→Value
 | some a=>ptrV a.rb
 | none=>.pointer none
def RgnO (o:Ow) (i:Nat) (h:Hp):Option RA→Option Rgn→Prop
 | some a,some r=>RgnAt o i h a r
 | none,none=>True
 | _,_=>False
theorem RgnO.keep {S:Tg→Prop} {o o':Ow} {i:Nat} {h h':Hp} {a:Option RA} {r:Option Rgn} (s:RgnO o i h a r) (k:Kp S o h o' h') (hn:∀ t,rgnTags i t→¬ S t):RgnO o' i h' a r:=by
 cases a <;> cases r <;> first | exact s | exact RgnAt.keep s k hn
def fnV (f:FuncId) (l:List Nat):Value:=.func (.func f) #[] (l.map ptrV).toArray
def AnsP (o:Ow) (h:Hp) (wb nb:Nat) (v:Value) (to:Int) (b:Bal) (vs:List Vt):Prop:=
 ∃ b3 b4 b5 b7 l w5 w,v=fnV 88 [b3,b4,b5,b7]∧BoxAt o h b3 (.cells [ptrV wb].toArray 49)∧BoxAt o h b4 (.cells [ptrV nb].toArray 56) ∧
  BoxAt o h b5 (.cells (ltC l w5).toArray 98)∧l.frm=to∧l.b=b∧BoxAt o h b7 (.cells [w].toArray 61)∧ImV o h w vs
def AnsV (o:Ow) (h:Hp) (wb nb:Nat) (v:Value) (to:Int) (x:Vt):Prop:=
 ∃ b3 b4 b5 l w5,v=fnV 93 [b3,b4,b5]∧BoxAt o h b3 (.cells [ptrV wb].toArray 49)∧BoxAt o h b4 (.cells [ptrV nb].toArray 56) ∧
  BoxAt o h b5 (.cells (ltC l w5).toArray 98)∧l.frm=to∧l.v=x
theorem AnsP.keep {S:Tg→Prop} {o o':Ow} {h h':Hp} {wb nb:Nat} {v:Value} {to:Int} {b:Bal} {vs:List Vt} (s:AnsP o h wb nb v to b vs) (k:Kp S o h o' h'):AnsP o' h' wb nb v to b vs:=by
 obtain ⟨b3,b4,b5,b7,l,w5,w,h1,h2,h3,h4,h5,h6,h7,h8⟩:=s
 exact ⟨b3,b4,b5,b7,l,w5,w,h1,h2.keep k,h3.keep k,h4.keep k,h5,h6,h7.keep k,h8.keep k⟩
theorem AnsV.keep {S:Tg→Prop} {o o':Ow} {h h':Hp} {wb nb:Nat} {v:Value} {to:Int} {x:Vt} (s:AnsV o h wb nb v to x) (k:Kp S o h o' h'):AnsV o' h' wb nb v to x:=by
 obtain ⟨b3,b4,b5,l,w5,h1,h2,h3,h4,h5,h6⟩:=s
 exact ⟨b3,b4,b5,l,w5,h1,h2.keep k,h3.keep k,h4.keep k,h5,h6⟩
def AcpBox (o:Ow) (h:Hp) (b:Nat) (a:Acp):Prop:=∃ w,BoxAt o h b (.cells (accC a.p w).toArray 63)∧ImV o h w a.l
theorem AcpBox.keep {S:Tg→Prop} {o o':Ow} {h h':Hp} {b:Nat} {a:Acp} (s:AcpBox o h b a) (k:Kp S o h o' h'):AcpBox o' h' b a:=by
 obtain ⟨w,h1,h2⟩:=s
 exact ⟨w,h1.keep k,h2.keep k⟩
def OwnP (o:Ow) (h:Hp) (i nb:Nat) (ra:Option RA) (v:Value) (a:Acp) (vs:List Vt) (cur:Bool):Prop:=
 ∃ b6 b4 b7 b5 w rb,v=fnV 97 [b6,b4,b7,b5]∧AcpBox o h b6 a∧BoxAt o h b4 (.cells [ptrV nb].toArray 56)∧BoxAt o h b7 (.cells [w].toArray 61)∧ImV o h w vs ∧
  BoxAt o h b5 (.cells [ptrV rb].toArray 64) ∧
  (if cur=true then ∃ a,ra=some a∧a.rb=rb else ∃ cs pb pv,BlkAt o (.stale i) h rb (.cells cs 122)∧cs[2]? = some (.map (some pb))∧MapAt o (.stale i) h pb pv)
def PndAt (o:Ow) (h:Hp) (wb i nb:Nat) (ra:Option RA):Value→Option Pnd→Prop
 | v,none=>v=.nilFunc
 | v,some (.pro a to b vs)=>∃ b6 b4 b9 u,v=fnV 90 [b6,b4,b9]∧AcpBox o h b6 a∧BoxAt o h b4 (.cells [ptrV nb].toArray 56)∧BoxAt o h b9 (.cells [u].toArray 1)∧AnsP o h wb nb u to b vs
 | v,some (.vot a to x)=>∃ b6 b4 b9 u,v=fnV 96 [b6,b4,b9]∧AcpBox o h b6 a∧BoxAt o h b4 (.cells [ptrV nb].toArray 56)∧BoxAt o h b9 (.cells [u].toArray 1)∧AnsV o h wb nb u to x
 | v,some (.own a vs cur)=>OwnP o h i nb ra v a vs cur
theorem PndAt.keep {S:Tg→Prop} {o o':Ow} {h h':Hp} {wb i nb:Nat} {ra:Option RA} {v:Value} {p:Option Pnd} (s:PndAt o h wb i nb ra v p) (k:Kp S o h o' h') (hn:¬ S (.stale i)):PndAt o' h' wb i nb ra v p:=by
 match p,s with
 | none,s=>exact s
 | some (.pro a to b vs),⟨b6,b4,b9,u,h1,h2,h3,h4,h5⟩=>exact ⟨b6,b4,b9,u,h1,h2.keep k,h3.keep k,h4.keep k,h5.keep k⟩
 | some (.vot a to x),⟨b6,b4,b9,u,h1,h2,h3,h4,h5⟩=>exact ⟨b6,b4,b9,u,h1,h2.keep k,h3.keep k,h4.keep k,h5.keep k⟩
 | some (.own a vs cur),⟨b6,b4,b7,b5,w,rb,h1,h2,h3,h4,h5,h6,h7⟩=>
  refine ⟨b6,b4,b7,b5,w,rb,h1,h2.keep k,h3.keep k,h4.keep k,h5.keep k,h6.keep k,?_⟩
  cases cur with
  | true=>exact h7
  | false=>
   obtain ⟨cs,pb,pv,g1,g2,g3⟩:=h7
   exact ⟨cs,pb,pv,g1.keep k hn,g2,g3.keep k hn⟩
structure NA where
 data:Value
 votes:Value
 reign:Option RA
 known:Nat
 log:Value
 queue:Value
 waiting:Value
 inbox:Value
 pend:Value
def nodeC (n:Nd) (a:NA):List Value:=[.int .i64 n.me,.bool n.up,a.data,.int .i64 n.syn,.int .i64 n.own.p.r,.int .i64 n.own.p.n,a.votes,.int .i64 n.heard.r,.int .i64 n.heard.n,rgnV a.reign,.map (some a.known),a.log]++(n.store++[a.queue,a.waiting,a.inbox,a.pend,.int .i64 n.turn])
def nodeO (n:Nd) (a:NA):Obj:=.cells (nodeC n a).toArray 74
structure StOk (cs:List Value):Prop where
 fit:fitK storeK cs=true
 num:∀ i,i<32→nth cs i=some (.int .i64 (ci cs i))
 yes:∀ i,32≤i→i<40→nth cs i=some (.bool (cb cs i))
structure NodePt (o:Ow) (h:Hp) (wb i nb:Nat) (a:NA) (n:Nd):Prop where
 data:ImB o h a.data n.data
 votes:ImV o h a.votes n.own.l
 reign:RgnO o i h a.reign n.reign
 known:MapAt o (.known i) h a.known (mapV cmA n.known)
 log:CmsAt o (.log i) h a.log n.log
 queue:CmsAt o (.queue i) h a.queue n.queue
 waiting:CmsAt o (.waiting i) h a.waiting n.waiting
 inbox:LtsAt o (.inbox i) h a.inbox n.inbox
 pend:PndAt o h wb i nb a.reign a.pend n.pend
 store:StOk n.store
structure NodeAt (o:Ow) (h:Hp) (wb i nb:Nat) (a:NA) (n:Nd):Prop where
 blk:BlkAt o (.node i) h nb (nodeO n a)
 pt:NodePt o h wb i nb a n
theorem rgn_of {i:Nat} {t:Tg} (h:rgnTags i t):t.of=some i:=by
 rcases h with rfl | rfl | rfl | rfl | ⟨s,rfl⟩ <;> rfl
section
variable {S:Tg→Prop} {o o':Ow} {h h':Hp} {wb i nb:Nat} {a:NA} {n:Nd}
theorem NodePt.keep (s:NodePt o h wb i nb a n) (k:Kp S o h o' h') (hn:∀ t,S t→t.of≠some i∨t=.node i):NodePt o' h' wb i nb a n:=by
 have q:∀ t:Tg,t.of=some i→t ≠ .node i→¬ S t:=fun t ht hne hs=>(hn t hs).elim (fun q=>q ht) hne
 exact ⟨s.data.keep k,s.votes.keep k,s.reign.keep k (fun t ht=>q t (rgn_of ht) (by rcases ht with rfl | rfl | rfl | rfl | ⟨z,rfl⟩ <;> intro e <;> cases e)),s.known.keep k (q _ rfl (by intro e; cases e)),s.log.keep k (q _ rfl (by intro e; cases e)),s.queue.keep k (q _ rfl (by intro e; cases e)),s.waiting.keep k (q _ rfl (by intro e; cases e)),s.inbox.keep k (q _ rfl (by intro e; cases e)),s.pend.keep k (q _ rfl (by intro e; cases e)),s.store⟩
theorem NodeAt.keep (s:NodeAt o h wb i nb a n) (k:Kp S o h o' h') (hn:∀ t,S t→t.of≠some i):NodeAt o' h' wb i nb a n:=
 ⟨s.blk.keep k fun q=>hn _ q rfl,s.pt.keep k fun t ht=>.inl (hn t ht)⟩
theorem NodePt.put (s:NodePt o h wb i nb a n) (d:Dom o h) {x:Obj} (b:BlkAt o (.node i) h nb x):NodeAt o (h.setIfInBounds nb (nodeO n a)) wb i nb a n:=
 ⟨⟨b.1,get_set b.2⟩,s.keep ((Kp.refl d (fun t=>t=.node i)).set b.1 rfl _) fun t ht=>.inr ht⟩
theorem NodePt.write (s:NodePt o h wb i nb a n) (d:Dom o h) {x:Obj} (b:BlkAt o (.node i) h nb x) {e:Option Hp} (w:e=some (h.setIfInBounds nb (nodeO n a))):∃ g,e=some g∧NodeAt o g wb i nb a n∧Kp (fun t=>t=.node i) o h o g:=
 ⟨_,w,s.put d b,(Kp.refl d (fun t=>t=.node i)).set b.1 rfl _⟩
theorem NodePt.keepQueue (s:NodePt o h wb i nb a n) (k:Kp (fun t=>t=.queue i) o h o' h') {v:Value} {l:List Cm} (hv:CmsAt o' (.queue i) h' v l):NodePt o' h' wb i nb { a with queue:=v } { n with queue:=l }:=
 ⟨s.data.keep k,s.votes.keep k,s.reign.keep k (fun t ht=>by rcases ht with rfl | rfl | rfl | rfl | ⟨z,rfl⟩ <;> intro e <;> cases e),s.known.keep k (by intro e; cases e),s.log.keep k (by intro e; cases e),hv,s.waiting.keep k (by intro e; cases e),s.inbox.keep k (by intro e; cases e),s.pend.keep k (by intro e; cases e),s.store⟩
theorem NodePt.keepLog (s:NodePt o h wb i nb a n) (k:Kp (fun t=>t=.log i) o h o' h') {v:Value} {l:List Cm} (hv:CmsAt o' (.log i) h' v l):NodePt o' h' wb i nb { a with log:=v } { n with log:=l }:=
 ⟨s.data.keep k,s.votes.keep k,s.reign.keep k (fun t ht=>by rcases ht with rfl | rfl | rfl | rfl | ⟨z,rfl⟩ <;> intro e <;> cases e),s.known.keep k (by intro e; cases e),hv,s.queue.keep k (by intro e; cases e),s.waiting.keep k (by intro e; cases e),s.inbox.keep k (by intro e; cases e),s.pend.keep k (by intro e; cases e),s.store⟩
theorem NodePt.keepWaiting (s:NodePt o h wb i nb a n) (k:Kp (fun t=>t=.waiting i) o h o' h') {v:Value} {l:List Cm} (hv:CmsAt o' (.waiting i) h' v l):NodePt o' h' wb i nb { a with waiting:=v } { n with waiting:=l }:=
 ⟨s.data.keep k,s.votes.keep k,s.reign.keep k (fun t ht=>by rcases ht with rfl | rfl | rfl | rfl | ⟨z,rfl⟩ <;> intro e <;> cases e),s.known.keep k (by intro e; cases e),s.log.keep k (by intro e; cases e),s.queue.keep k (by intro e; cases e),hv,s.inbox.keep k (by intro e; cases e),s.pend.keep k (by intro e; cases e),s.store⟩
theorem NodePt.keepInbox (s:NodePt o h wb i nb a n) (k:Kp (fun t=>t=.inbox i) o h o' h') {v:Value} {l:List Ltr} (hv:LtsAt o' (.inbox i) h' v l):NodePt o' h' wb i nb { a with inbox:=v } { n with inbox:=l }:=
 ⟨s.data.keep k,s.votes.keep k,s.reign.keep k (fun t ht=>by rcases ht with rfl | rfl | rfl | rfl | ⟨z,rfl⟩ <;> intro e <;> cases e),s.known.keep k (by intro e; cases e),s.log.keep k (by intro e; cases e),s.queue.keep k (by intro e; cases e),s.waiting.keep k (by intro e; cases e),hv,s.pend.keep k (by intro e; cases e),s.store⟩
theorem NodePt.keepKnown (s:NodePt o h wb i nb a n) (k:Kp (fun t=>t=.known i) o h o' h') {v:Nat} {l:List (Int × Cm)} (hv:MapAt o' (.known i) h' v (mapV cmA l)):NodePt o' h' wb i nb { a with known:=v } { n with known:=l }:=
 ⟨s.data.keep k,s.votes.keep k,s.reign.keep k (fun t ht=>by rcases ht with rfl | rfl | rfl | rfl | ⟨z,rfl⟩ <;> intro e <;> cases e),hv,s.log.keep k (by intro e; cases e),s.queue.keep k (by intro e; cases e),s.waiting.keep k (by intro e; cases e),s.inbox.keep k (by intro e; cases e),s.pend.keep k (by intro e; cases e),s.store⟩
theorem NodePt.keepReign (s:NodePt o h wb i nb a n) (k:Kp (rgnTags i) o h o' h') {ra ra':RA} {r':Rgn} (hr:a.reign=some ra) (hrb:ra'.rb=ra.rb) (hv:RgnAt o' i h' ra' r'):NodePt o' h' wb i nb { a with reign:=some ra' } { n with reign:=some r' }:=by
 have q:∀ t,t.of=some i→(¬ ∃ u,t=u∧rgnTags i u)→¬ rgnTags i t:=fun t _ h2 h3=>h2 ⟨t,rfl,h3⟩
 have e:∀ t:Tg,(t=.known i∨t=.log i∨t=.queue i∨t=.waiting i∨t=.inbox i∨t=.stale i)→¬ rgnTags i t:=by
  intro t ht hr
  rcases ht with rfl | rfl | rfl | rfl | rfl | rfl <;> rcases hr with e | e | e | e | ⟨s,e⟩ <;> cases e
 refine ⟨s.data.keep k,s.votes.keep k,hv,s.known.keep k (e _ (by simp)),s.log.keep k (e _ (by simp)),s.queue.keep k (e _ (by simp)),s.waiting.keep k (e _ (by simp)),s.inbox.keep k (e _ (by simp)),?_,s.store⟩
 have hp:=s.pend.keep k (e _ (by simp))
 show PndAt o' h' wb i nb (some ra') a.pend n.pend
 rw [hr] at hp
 match hn:n.pend,hp with
 | none,hp=>exact hp
 | some (.pro _ _ _ _),hp=>exact hp
 | some (.vot _ _ _),hp=>exact hp
 | some (.own _ _ cur),⟨b6,b4,b7,b5,w,rb,h1,h2,h3,h4,h5,h6,h7⟩=>
  refine ⟨b6,b4,b7,b5,w,rb,h1,h2,h3,h4,h5,h6,?_⟩
  cases cur with
  | false=>exact h7
  | true=>
   obtain ⟨c,hc,hcr⟩:=h7
   obtain rfl:=Option.some.inj hc
   exact ⟨ra',rfl,hrb.trans hcr⟩
end
structure WA where
 nodes:Value
 flying:Value
 told:Value
def worldC (bad:Nat→Int) (a:WA):List Value:=[a.nodes,a.flying,.int .i64 0,.bool false,.bool false,.bool false,.bool false,.bool false,.slice none 0 0,.int .i64 (bad 0),.int .i64 (bad 1),.int .i64 (bad 2),.int .i64 (bad 3),.int .i64 (bad 4),a.told]
structure WorldAt (o:Ow) (h:Hp) (wb:Nat) (nb:Nat→Nat) (a:WA) (fl:List Ltr) (bad:Nat→Int) (told:List Tld):Prop where
 blk:BlkAt o .world h wb (.cells (worldC bad a).toArray 55)
 nodes:OwnT o .nodes 56 1 h a.nodes 5 [ptrV (nb 0),ptrV (nb 1),ptrV (nb 2),ptrV (nb 3),ptrV (nb 4)]
 flying:LtsAt o .flying h a.flying fl
 told:OwnT o .told 116 5 h a.told told.length (encs tldC told)
theorem WorldAt.keep {S:Tg→Prop} {o o':Ow} {h h':Hp} {wb:Nat} {nb:Nat→Nat} {a:WA} {fl:List Ltr} {bad:Nat→Int} {told:List Tld} (s:WorldAt o h wb nb a fl bad told) (k:Kp S o h o' h') (hn:∀ t,S t→t.of≠none):WorldAt o' h' wb nb a fl bad told:=
 ⟨s.blk.keep k fun q=>hn _ q rfl,s.nodes.keep k fun q=>hn _ q rfl,s.flying.keep k fun q=>hn _ q rfl,s.told.keep k fun q=>hn _ q rfl⟩
def noT (t:Tg):Prop:=False
section
variable {S:Tg→Prop} {o o':Ow} {h h':Hp}
theorem kp_still (d:Dom o h) (b:Bel h.size h h'):Kp noT o h o h':=Kp.of_bel d b _
theorem kp_any (k:Kp noT o h o' h'):Kp S o h o' h':=k.mono fun _ q=>q.elim
theorem NodeAt.still {wb i nb:Nat} {a:NA} {n:Nd} (s:NodeAt o h wb i nb a n) (k:Kp noT o h o' h'):NodeAt o' h' wb i nb a n:=s.keep k fun _ q=>q.elim
theorem WorldAt.still {wb:Nat} {nb:Nat→Nat} {a:WA} {fl:List Ltr} {bad:Nat→Int} {told:List Tld} (s:WorldAt o h wb nb a fl bad told) (k:Kp noT o h o' h'):WorldAt o' h' wb nb a fl bad told:=s.keep k fun _ q=>q.elim
theorem kp_push (d:Dom o h) (x:Obj):Kp noT o h o (h.push x):=(Kp.refl d _).push x
end
structure Tbs (o:Ow) (h:Hp):Prop where
 tk:Tk h
 tn:Tab 0 niv needN h
 fk:o 1=none
 fn:o 0=none
theorem tab_kp {S:Tg→Prop} {o o':Ow} {h h':Hp} {g:Nat} {f:Nat→Value} {l:List Nat} (t:Tab g f l h) (hf:o g=none) (k:Kp S o h o' h'):Tab g f l h'∧o' g=none:=by
 obtain ⟨h1,h2⟩:=k.keep g t.1 fun t ht=>by rw [hf] at ht; cases ht
 refine ⟨⟨Nat.lt_of_lt_of_le t.1 k.size,fun i hi=>?_⟩,by rw [h2,hf]⟩
 have:=t.2 i hi
 unfold hc at this ⊢
 rw [h1]; exact this
theorem Tbs.keep {S:Tg→Prop} {o o':Ow} {h h':Hp} (t:Tbs o h) (k:Kp S o h o' h'):Tbs o' h':=
 ⟨(tab_kp t.tk t.fk k).1,(tab_kp t.tn t.fn k).1,(tab_kp t.tk t.fk k).2,(tab_kp t.tn t.fn k).2⟩
theorem StOk.len {cs:List Value} (s:StOk cs):cs.length=40:=by
 have:=fitK_length s.fit
 rw [this]; rfl
theorem StOk.one {cs:List Value} (s:StOk cs):cs.all oneC=true:=fitK_one s.fit
theorem rgnV_one (a:Option RA):oneC (rgnV a)=true:=by cases a <;> rfl
section
variable {h:Hp} {nb:Nat} {n:Nd} {a:NA}
structure NodeRd (h:Hp) (nb:Nat) (n:Nd) (a:NA):Prop where
 me:hc h ⟨nb,0,none⟩=some (.int .i64 n.me)
 up:hc h ⟨nb,1,none⟩=some (.bool n.up)
 tape:rd h ⟨nb,2,none⟩ 2=some [a.data,.int .i64 n.syn]
 own:rd h ⟨nb,4,none⟩ 3=some [.int .i64 n.own.p.r,.int .i64 n.own.p.n,a.votes]
 ownp:rd h ⟨nb,4,none⟩ 2=some [.int .i64 n.own.p.r,.int .i64 n.own.p.n]
 ownr:hc h ⟨nb,4,none⟩=some (.int .i64 n.own.p.r)
 ownn:hc h ⟨nb,5,none⟩=some (.int .i64 n.own.p.n)
 votes:hc h ⟨nb,6,none⟩=some a.votes
 heard:rd h ⟨nb,7,none⟩ 2=some [.int .i64 n.heard.r,.int .i64 n.heard.n]
 heardr:hc h ⟨nb,7,none⟩=some (.int .i64 n.heard.r)
 reign:hc h ⟨nb,9,none⟩=some (rgnV a.reign)
 known:hc h ⟨nb,10,none⟩=some (.map (some a.known))
 log:hc h ⟨nb,11,none⟩=some a.log
 store:rd h ⟨nb,12,none⟩ 40=some n.store
 queue:hc h ⟨nb,52,none⟩=some a.queue
 waiting:hc h ⟨nb,53,none⟩=some a.waiting
 inbox:hc h ⟨nb,54,none⟩=some a.inbox
 pend:hc h ⟨nb,55,none⟩=some a.pend
 turn:hc h ⟨nb,56,none⟩=some (.int .i64 n.turn)
theorem nodeC_len (hs:n.store.length=40):(nodeC n a).length=57:=by
 unfold nodeC
 rw [List.length_append,List.length_append,hs]; rfl
theorem nodeC_at (hs:n.store.length=40) (k:Nat):nth (nodeC n a) (52+k)=nth [a.queue,a.waiting,a.inbox,a.pend,.int .i64 n.turn] k:=by
 unfold nodeC
 rw [nth_eq,nth_eq,List.getElem?_append_right (by simp; omega),List.getElem?_append_right (by simp; omega)]
 congr 1
 simp
 omega
theorem node_rd (H:h[nb]? = some (nodeO n a)) (hs:n.store.length=40):NodeRd h nb n a:=by
 have l57:=nodeC_len (a:=a) hs
 have c:∀ k,hc h ⟨nb,k,none⟩=nth (nodeC n a) k:=fun k=>hc_last H
 have r:∀ k m,k+m≤57→rd h ⟨nb,k,none⟩ m=some (((nodeC n a).drop k).take m):=fun k m hk=>rd_part H (by rw [l57]; exact hk)
 refine ⟨c 0,c 1,r 2 2 (by omega),r 4 3 (by omega),r 4 2 (by omega),c 4,c 5,c 6,r 7 2 (by omega),c 7,c 9,c 10,c 11,?_,(c 52).trans (nodeC_at hs 0),(c 53).trans (nodeC_at hs 1),(c 54).trans (nodeC_at hs 2),(c 55).trans (nodeC_at hs 3),(c 56).trans (nodeC_at hs 4)⟩
 rw [r 12 40 (by omega)]
 congr 1
 unfold nodeC
 rw [List.drop_append_of_le_length (by simp)]
 simp only [List.drop_succ_cons,List.drop_nil,List.drop_zero,List.nil_append]
 rw [← hs,List.take_left']
 rfl
structure NodeWr (h:Hp) (nb:Nat) (n:Nd) (a:NA):Prop where
 up:∀ v,wr1 h ⟨nb,1,none⟩ (.bool v)=some (h.setIfInBounds nb (nodeO { n with up:=v } a))
 tape:∀ d s,oneC d=true→wr h ⟨nb,2,none⟩ [d,.int .i64 s]=some (h.setIfInBounds nb (nodeO { n with syn:=s } { a with data:=d }))
 own:∀ r k w,oneC w=true→wr h ⟨nb,4,none⟩ [.int .i64 r,.int .i64 k,w]=some (h.setIfInBounds nb (nodeO { n with own:=⟨⟨r,k⟩,n.own.l⟩ } { a with votes:=w }))
 heard:∀ r k,wr h ⟨nb,7,none⟩ [.int .i64 r,.int .i64 k]=some (h.setIfInBounds nb (nodeO { n with heard:=⟨r,k⟩ } a))
 reign:∀ b,wr1 h ⟨nb,9,none⟩ (rgnV b)=some (h.setIfInBounds nb (nodeO n { a with reign:=b }))
 log:∀ v,oneC v=true→wr1 h ⟨nb,11,none⟩ v=some (h.setIfInBounds nb (nodeO n { a with log:=v }))
 store:∀ cs:List Value,cs.length=40→cs.all oneC=true→wr h ⟨nb,12,none⟩ cs=some (h.setIfInBounds nb (nodeO { n with store:=cs } a))
 queue:∀ v,oneC v=true→wr1 h ⟨nb,52,none⟩ v=some (h.setIfInBounds nb (nodeO n { a with queue:=v }))
 waiting:∀ v,oneC v=true→wr1 h ⟨nb,53,none⟩ v=some (h.setIfInBounds nb (nodeO n { a with waiting:=v }))
 inbox:∀ v,oneC v=true→wr1 h ⟨nb,54,none⟩ v=some (h.setIfInBounds nb (nodeO n { a with inbox:=v }))
 pend:∀ v,oneC v=true→wr1 h ⟨nb,55,none⟩ v=some (h.setIfInBounds nb (nodeO n { a with pend:=v }))
 turn:∀ k,wr1 h ⟨nb,56,none⟩ (.int .i64 k)=some (h.setIfInBounds nb (nodeO { n with turn:=k } a))
theorem set_tail (pre mid l:List Value) (k:Nat) (v:Value) (hk:pre.length+mid.length=52):(pre++(mid++l)).set (52+k) v=pre++(mid++l.set k v):=by
 rw [List.set_append_right _ _ (by omega),List.set_append_right _ _ (by omega)]
 congr 3
 omega
theorem node_wr (H:h[nb]? = some (nodeO n a)) (hs:n.store.length=40):NodeWr h nb n a:=by
 have l57:=nodeC_len (a:=a) hs
 have w1:∀ (k:Nat) (v:Value) (n':Nd) (a':NA),k<57→oneC v=true→(nodeC n a).set k v=nodeC n' a'→wr1 h ⟨nb,k,none⟩ v=some (h.setIfInBounds nb (nodeO n' a')):=fun k v n' a' hk hv he=>by
  rw [wr1_get H,if_pos ⟨by rw [l57]; exact hk,hv⟩,he]; rfl
 have w:∀ (k:Nat) (vs:List Value) (n':Nd) (a':NA),k+vs.length≤57→vs.all oneC=true→lput (nodeC n a) k vs=nodeC n' a'→wr h ⟨nb,k,none⟩ vs=some (h.setIfInBounds nb (nodeO n' a')):=fun k vs n' a' hk hv he=>by
  rw [wr_get H,if_pos ⟨by rw [l57]; exact hk,hv⟩,he]; rfl
 refine ⟨fun v=>w1 _ _ _ _ (by omega) rfl rfl,fun d s hd=>w _ _ _ _ (by simp) (by rw [List.all_cons,hd]; rfl) rfl,fun r k v hv=>w _ _ _ _ (by simp) (by simp only [List.all_cons,hv]; rfl) rfl,fun r k=>w _ _ _ _ (by simp) (by simp [oneC]) rfl,fun b=>w1 _ _ _ _ (by omega) (rgnV_one b) rfl,fun v hv=>w1 _ _ _ _ (by omega) hv rfl,fun cs hl hone=>w _ _ _ _ (by omega) hone ?_,
  fun v hv=>w1 _ _ _ _ (by omega) hv ?_,fun v hv=>w1 _ _ _ _ (by omega) hv ?_,fun v hv=>w1 _ _ _ _ (by omega) hv ?_,fun v hv=>w1 _ _ _ _ (by omega) hv ?_,fun k=>w1 _ _ _ _ (by omega) rfl ?_⟩
 ·unfold nodeC
  exact lput_at rfl (by rw [hl,hs])
 all_goals
  unfold nodeC
  first
   | exact set_tail _ _ _ 0 _ (by rw [hs]; rfl)
   | exact set_tail _ _ _ 1 _ (by rw [hs]; rfl)
   | exact set_tail _ _ _ 2 _ (by rw [hs]; rfl)
   | exact set_tail _ _ _ 3 _ (by rw [hs]; rfl)
   | exact set_tail _ _ _ 4 _ (by rw [hs]; rfl)
end
section
variable {h:Hp} {wb:Nat} {bad:Nat→Int} {a:WA}
structure WorldRd (h:Hp) (wb:Nat) (bad:Nat→Int) (a:WA):Prop where
 nodes:hc h ⟨wb,0,none⟩=some a.nodes
 flying:hc h ⟨wb,1,none⟩=some a.flying
 told:hc h ⟨wb,14,none⟩=some a.told
 out:rd h ⟨wb,2,none⟩ 13=some [.int .i64 0,.bool false,.bool false,.bool false,.bool false,.bool false,.slice none 0 0,.int .i64 (bad 0),.int .i64 (bad 1),.int .i64 (bad 2),.int .i64 (bad 3),.int .i64 (bad 4),a.told]
 wflying:∀ v,oneC v=true→wr1 h ⟨wb,1,none⟩ v=some (h.setIfInBounds wb (.cells (worldC bad { a with flying:=v }).toArray 55))
 wtold:∀ v,oneC v=true→wr1 h ⟨wb,14,none⟩ v=some (h.setIfInBounds wb (.cells (worldC bad { a with told:=v }).toArray 55))
 wnodes:∀ v,oneC v=true→wr1 h ⟨wb,0,none⟩ v=some (h.setIfInBounds wb (.cells (worldC bad { a with nodes:=v }).toArray 55))
theorem world_rd (H:h[wb]? = some (.cells (worldC bad a).toArray 55)):WorldRd h wb bad a:=by
 refine ⟨hc_last H,hc_last H,hc_last H,rd_part H (by simp [worldC]),fun v hv=>?_,fun v hv=>?_,fun v hv=>?_⟩
 all_goals
  rw [wr1_get H,if_pos ⟨by simp [worldC],hv⟩]
  rfl
end
theorem Im.isSlice {o:Ow} {n:Nat} {h:Hp} {v:Value} {m:Nat} {cs:List Value} (s:Im o n h v m cs):∃ p c,v=.slice p m c:=by
 obtain ⟨p,c,h,_⟩:=s.fits; exact ⟨p,c,h⟩
theorem encs_one {α:Type} (enc:α→List Value) (x:α):encs enc [x]=enc x:=by simp [encs]
def sentT (t:Tg):Prop:=t=.world∨t=.flying
theorem send_ok (T:World) (h:Hp) (o:Ow) (wb nb:Nat) (nbs:Nat→Nat) (me:Nat) (WA0:WA) (fl:List Ltr) (bad:Nat→Int) (told:List Tld) (to:Int) (l:Ltr) (w:Value) (d:Dom o h)
  (W:WorldAt o h wb nbs WA0 fl bad told) (hme:hc h ⟨nb,0,none⟩=some (.int .i64 me)) (hnb:nb<h.size) (iv:ImV o h w l.vs) (hroom:fl.length≤1000000000000) :
  CallsH Tryz.prog T 70 #[ptrV wb,ptrV nb,.int .i64 to,.agg (ltC l w).toArray] h fun v' h'=>∃ o' WA',Kp sentT o h o' h'∧(∀ b,b<h.size→o' b=o b)∧WorldAt o' h' wb nbs WA' (fl++[⟨l.kind,me,to,l.b,l.v,l.vs⟩]) bad told:=by
 obtain ⟨p,c,hw⟩:=iv.isSlice
 have hone:oneC w=true:=by rw [hw]; rfl
 have hwb:=lt_of_get W.blk.2
 have R0:=world_rd W.blk.2
 refine CallsH.of_code' (args:=[_,_,_,_]) Tryz.func70 rfl rfl rfl rfl ?_
 unfold ptrV ltC
 have e1:nb≠h.size:=by omega
 have e2:wb≠h.size:=by omega
 simp -implicitDefEqProofs (maxSteps:=2000000) only [go_sem,↓reduceIte,hc_push,e1,hme]
 refine VS.z (h.size+1) [7,10] (.p 0 (.p 1 (.p 2 (.p 3 (.q 4 (.q 5 (.s 6 (.w 7 (.p 8 (.p 9 (.w 10 .nil))))))))))) mixed (by kernel_rfl) ?_
 simp -implicitDefEqProofs (maxSteps:=2000000) only [go_sem,↓reduceIte,hc_push,rd_push,e1,e2,hme,R0.flying,hwb]
 obtain ⟨h1,hh1⟩:∃ h1:Hp,h1=h.push (.cells (ltC ⟨l.kind,me,to,l.b,l.v,l.vs⟩ w).toArray 98):=⟨_,rfl⟩
 have s1:h1.size=h.size+1:=by rw [hh1]; simp
 obtain ⟨h2,hh2⟩:∃ h2:Hp,h2=h1.push (.cells (ltC ⟨l.kind,me,to,l.b,l.v,l.vs⟩ w).toArray 98):=⟨_,rfl⟩
 have ee:((h.push (.cells (ltC ⟨l.kind,me,to,l.b,l.v,l.vs⟩ w).toArray 98)).push (.cells (ltC ⟨l.kind,me,to,l.b,l.v,l.vs⟩ w).toArray 98))=h2:=by rw [hh2,hh1]
 unfold ltC at ee
 simp only at ee
 refine ⟨Bel.push (by simp) _,?_⟩
 rw [ee]
 have k2:Kp (fun _=>False) o h o h2:=by rw [hh2,hh1]; exact ((Kp.refl d _).push _).push _
 have W2:=W.keep k2 (fun _ q=>q.elim)
 have iv2:=iv.keep k2
 obtain ⟨xs,hx1,hx2,hx3⟩:=W2.flying
 have hxl:xs.length=fl.length:=by rw [← hx1,List.length_map]
 have src:Sl 14 h2 (.slice (some ⟨h.size+1,0,none⟩) 1 1) 1 (ltC ⟨l.kind,me,to,l.b,l.v,l.vs⟩ w):=by
  rw [hh2,← s1]; exact Sl.made (by simp [ltC]) 1
 refine append_tag (E:=98) (n:=14) (bytes:=128) (k:=1) tsl53 Tryz.underlying53 tn98 tz98 rfl tb98 hx2 k2.dom src (by rw [ltC,List.all_eq_true]; intro x hx; simp at hx; rcases hx with rfl | rfl | rfl | rfl | rfl | rfl | rfl | rfl | rfl | rfl | rfl | rfl | rfl | rfl <;> first | rfl | exact hone) (by omega) (by omega) ?_
 intro v' o3 h3 w3 k3 q3
 have b3:=W2.blk.keep k3 (by intro q; cases q)
 have R3:=world_rd b3.2
 obtain ⟨p3,c3,rfl,_⟩:=w3.isSlice
 have hw3:=lt_of_get b3.2
 have e3:=R3.wflying (.slice p3 (xs.length+1) c3) rfl
 simp -implicitDefEqProofs (maxSteps:=2000000) only [go_sem,↓reduceIte,e3]
 have k4:Kp sentT o h o3 h3:=(k2.mono fun _ q=>q.elim).trans (k3.mono fun u q=>.inr q)
 have k5:=k4.set b3.1 (.inl rfl) (.cells (worldC bad { WA0 with flying:=.slice p3 (xs.length+1) c3 }).toArray 55)
 have kk:Kp (fun u=>u=.world) o3 h3 o3 (h3.setIfInBounds wb (.cells (worldC bad { WA0 with flying:=.slice p3 (xs.length+1) c3 }).toArray 55)):=(Kp.refl k3.dom (fun u=>u=.world)).set b3.1 rfl _
 refine ⟨o3,{ WA0 with flying:=.slice p3 (xs.length+1) c3 },k5,fun b hb=>q3 b (by have:=k2.size; omega),⟨b3.1,get_set b3.2⟩,(W2.nodes.keep k3 (by intro q; cases q)).keep kk (by intro q; cases q),⟨xs++[(⟨l.kind,me,to,l.b,l.v,l.vs⟩,w)],?_,?_,fun x hx=>?_⟩,(W2.told.keep k3 (by intro q; cases q)).keep kk (by intro q; cases q)⟩
 ·rw [List.map_append,hx1]; rfl
 ·have:=w3.keep kk (by intro q; cases q)
  rw [encs_append,encs_one,List.length_append]
  exact this
 ·rcases List.mem_append.1 hx with hx | hx
  ·exact ((hx3 x hx).keep k3).keep kk
  ·have:x=(⟨l.kind,me,to,l.b,l.v,l.vs⟩,w):=by simpa using hx
   subst this
   exact (iv2.keep k3).keep kk
@[go_sem] theorem cm_fit (x:Cm):fitK [some .i64,some .i64,some .i64,some .i64,some .i64] x.C=true:=rfl
@[go_sem] theorem cm_leq (x y:Cm):leq x.C y.C=decide (x=y):=by
 obtain ⟨a,b,c,d,e⟩:=x
 obtain ⟨a',b',c',d',e'⟩:=y
 unfold Cmv.C cmdC
 rw [Bool.eq_iff_iff]
 simp [leq,ceq,Cmv.mk.injEq]
@[go_sem] theorem C_len (x:Cm):x.C.length=5:=rfl
@[go_sem] theorem cm_all (x:Cm):x.C.all oneC=true:=rfl
@[go_sem] theorem cm_lput (x:Cm):lput [.int .i64 0,.int .i64 0,.int .i64 0,.int .i64 0,.int .i64 0] 0 x.C=x.C:=rfl
theorem cms_open {h:Hp} {v:Value} {l:List Cm} (s:Ts Cmv.C 5 h v l):∃ p c,v=.slice p l.length c∧(l≠[]→∃ b o,p=some ⟨b,o,none⟩∧b<h.size∧∀ i (hi:i<l.length),rd h ⟨b,o+i*5,none⟩ 5=some (l[i]).C):=by
 obtain ⟨p,c,hv,hh⟩:=s.open C_len (by decide)
 refine ⟨p,c,hv,fun hne=>?_⟩
 obtain ⟨b,o,h1,h2,h3⟩:=hh hne
 exact ⟨b,o,h1,h2,fun i hi=>(h3 i hi).rd (by simp [Cmv.C,cmdC]) rfl⟩
def idxI (l:List Cm) (x:Cm):Int:=if x∈l then (l.idxOf x:Int) else -1
theorem idxOf_at {l:List Cm} {x:Cm} {i:Nat} (hi:i<l.length) (he:l[i]=x) (hn:∀ j (hj:j<l.length),j<i→l[j]≠x):l.idxOf x=i:=by
 have hx:x∈l:=he ▸ List.getElem_mem hi
 have h1:l.idxOf x<l.length:=List.idxOf_lt_length_of_mem hx
 have h2:l[l.idxOf x]=x:=List.getElem_idxOf h1
 rcases Nat.lt_trichotomy (l.idxOf x) i with h | h | h
 ·exact absurd h2 (hn _ h1 h)
 ·exact h
 ·have:=List.not_of_lt_findIdx (p:=(· == x)) (xs:=l) (i:=i) h
  simp [he] at this
theorem idxI_at {l:List Cm} {x:Cm} {i:Nat} (hi:i<l.length) (he:l[i]=x) (hn:∀ j (hj:j<l.length),j<i→l[j]≠x):idxI l x=i:=by
 unfold idxI
 rw [if_pos (he ▸ List.getElem_mem hi),idxOf_at hi he hn]
theorem idxI_none {l:List Cm} {x:Cm} (hn:∀ j (hj:j<l.length),l[j]≠x):idxI l x = -1:=by
 unfold idxI
 rw [if_neg fun hm=>by obtain ⟨j,hj,he⟩:=List.getElem_of_mem hm; exact hn j hj he]
theorem idxI_mem (l:List Cm) (x:Cm):0≤idxI l x↔x∈l:=by
 unfold idxI
 split
 ·rename_i h; exact ⟨fun _=>h,fun _=>by omega⟩
 ·rename_i h; exact ⟨fun q=>by omega,fun q=>absurd q h⟩
theorem indexCm_ok (T:World) (h:Hp) (v:Value) (l:List Cm) (x:Cm) (s:Ts Cmv.C 5 h v l) (hl:l.length≤4611686018427387904) :
  CallsH Tryz.prog T 36 #[v,cmA x] h fun v' h'=>v'=.int .i64 (idxI l x)∧Bel h.size h h':=by
 obtain ⟨p,c,rfl,hcs⟩:=cms_open s
 refine CallsH.of_code' (args:=[_,_]) Tryz.func36 rfl rfl rfl rfl ?_
 unfold cmA
 simp -implicitDefEqProofs (maxSteps:=2000000) only [go_sem,↓reduceIte]
 obtain ⟨h1,hh1⟩:∃ h1:Hp,h1=h.push (.cells x.C.toArray 77):=⟨_,rfl⟩
 have b1:Bel h.size h h1:=by rw [hh1]; exact Bel.push (Nat.le_refl _) _
 have x1:h1[h.size]? = some (.cells x.C.toArray 77):=by rw [hh1]; exact get_push_last
 rw [← hh1]
 clear hh1
 refine VS.loop' (fun F g=>g=h1∧F 0=.slice p l.length c∧F 3=.pointer (some ⟨h.size,0,none⟩)∧F 7=.int .i64 l.length∧∃ i:Nat,i≤l.length∧F 8=.int .i64 i∧∀ j (hj:j<l.length),j<i→l[j]≠x)
  (fun F _=>l.length - (vi (F 8)).toNat) rfl ⟨rfl,rfl,rfl,rfl,0,by omega,rfl,fun j hj q=>by omega⟩ ?_
 rintro F g ⟨rfl,f0,f3,f7,i,hi,f8,hall⟩
 by_cases hlt:i<l.length
 ·have hlt':(i:Int)<l.length:=by omega
  obtain ⟨bb,oo,rfl,hbb,hcs0⟩:=hcs (by intro e; rw [e] at hlt; simp at hlt)
  have r1:rd g ⟨bb,oo+i*5,none⟩ 5=some (l[i]).C:=by rw [rd_bel b1 (by exact hbb)]; exact hcs0 i hlt
  have r0:rd g ⟨h.size,0,none⟩ 5=some x.C:=rd_last x1 rfl
  simp -implicitDefEqProofs (maxSteps:=2000000) only [go_sem,↓reduceIte,f0,f3,f7,f8,hlt']
  refine VS.q mixed (by kernel_rfl) ?_
  simp -implicitDefEqProofs (maxSteps:=2000000) only [go_sem,↓reduceIte,f0,f3,f7,f8,hlt',r1,r0]
  by_cases q:l[i]=x
  ·have e:=idxI_at hlt q hall
   rw [q]
   simp -implicitDefEqProofs (maxSteps:=2000000) only [go_sem,↓reduceIte,e,b1]
  ·have q':¬ x=l[i]:=fun e=>q e.symm
   simp -implicitDefEqProofs (maxSteps:=2000000) only [go_sem,↓reduceIte,q',f0,f3,f7,f8]
   refine ⟨⟨rfl,f0,f3,f7,i+1,hlt,rfl,fun j hj hji=>?_⟩,?_⟩
   ·by_cases e:j=i
    ·subst e; exact q
    ·exact hall j hj (by omega)
   ·simp only [vi,updo_some,↓reduceIte,f8]; omega
 ·have hge:¬ (i:Int)<l.length:=by omega
  have e:=idxI_none (l:=l) (x:=x) fun j hj=>hall j hj (by omega)
  simp -implicitDefEqProofs (maxSteps:=2000000) only [go_sem,↓reduceIte,f7,f8,hge,e,b1]
theorem containsCm_ok (T:World) (h:Hp) (v:Value) (l:List Cm) (x:Cm) (s:Ts Cmv.C 5 h v l) (hl:l.length≤4611686018427387904) :
  CallsH Tryz.prog T 39 #[v,cmA x] h fun v' h'=>v'=.bool (decide (x∈l))∧Bel h.size h h':=by
 obtain ⟨p,c,rfl,hcs⟩:=cms_open s
 refine CallsH.of_code' (args:=[_,_]) Tryz.func39 rfl rfl rfl rfl ?_
 unfold cmA
 simp -implicitDefEqProofs (maxSteps:=2000000) only [go_sem,↓reduceIte]
 refine (indexCm_ok T _ _ l x (s.bel ((Bel.refl _ _).add _)) hl).use ?_
 rintro _ h2 ⟨rfl,b2⟩
 have b:Bel h.size h h2:=((Bel.refl _ _).add _).trans (b2.mono (by simp))
 simp -implicitDefEqProofs (maxSteps:=2000000) only [go_sem,↓reduceIte,idxI_mem,b]
theorem sameCm_ok (T:World) (h:Hp) (b:Nat) (x y:Cm) (hb:h[b]? = some (.cells x.C.toArray 77)) :
  CallsH Tryz.prog T 121 #[cmA y,ptrV b] h fun v' h'=>v'=.bool (decide (y=x))∧Bel h.size h h':=by
 have hlt:=lt_of_get hb
 refine CallsH.of_code' (args:=[_,_]) Tryz.func121 rfl rfl rfl rfl ?_
 unfold cmA ptrV
 have hne:b≠h.size:=by omega
 have r0:rd (h.push (.cells y.C.toArray 77)) ⟨h.size,0,none⟩ 5=some y.C:=rd_last get_push_last rfl
 have r1:rd (h.push (.cells y.C.toArray 77)) ⟨b,0,none⟩ 5=some x.C:=rd_last (by rw [get_push_ne hlt]; exact hb) rfl
 simp -implicitDefEqProofs (maxSteps:=2000000) only [go_sem,↓reduceIte,r0,r1]
def sameV (b:Nat):Value:=fnV 121 [b]
theorem indexFn_ok (T:World) (h:Hp) (v:Value) (l:List Cm) (b:Nat) (x:Cm) (s:Ts Cmv.C 5 h v l) (hb:h[b]? = some (.cells x.C.toArray 77)) (hl:l.length≤4611686018427387904) :
  CallsH Tryz.prog T 123 #[v,sameV b] h fun v' h'=>v'=.int .i64 (idxI l x)∧Bel h.size h h':=by
 obtain ⟨p,c,rfl,hcs⟩:=cms_open s
 refine CallsH.of_code' (args:=[_,_]) Tryz.func123 rfl rfl rfl rfl ?_
 have hlt:=lt_of_get hb
 unfold sameV fnV
 simp -implicitDefEqProofs (maxSteps:=2000000) only [go_sem,↓reduceIte]
 refine VS.loop' (fun F g=>Bel h.size h g∧F 0=.slice p l.length c∧F 1=sameV b∧F 7=.int .i64 l.length∧∃ i:Nat,i≤l.length∧F 8=.int .i64 i∧∀ j (hj:j<l.length),j<i→l[j]≠x)
  (fun F _=>l.length - (vi (F 8)).toNat) rfl ⟨Bel.refl _ _,rfl,rfl,rfl,0,by omega,rfl,fun j hj q=>by omega⟩ ?_
 rintro F g ⟨hg,f0,f1,f7,i,hi,f8,hall⟩
 by_cases hlt:i<l.length
 ·have hlt':(i:Int)<l.length:=by omega
  obtain ⟨bb,oo,rfl,hbb,hcs0⟩:=hcs (by intro e; rw [e] at hlt; simp at hlt)
  have r1:rd g ⟨bb,oo+i*5,none⟩ 5=some (l[i]).C:=by rw [rd_bel hg (by exact hbb)]; exact hcs0 i hlt
  unfold sameV fnV at f1
  simp only [List.map] at f1
  simp -implicitDefEqProofs (maxSteps:=2000000) only [go_sem,↓reduceIte,f0,f1,f7,f8,hlt',r1]
  refine (sameCm_ok T g b x l[i] (hg.get (by omega) hb)).use ?_
  rintro _ g1 ⟨rfl,b1⟩
  have hg1:Bel h.size h g1:=hg.trans (b1.mono hg.size)
  by_cases q:l[i]=x
  ·have e:=idxI_at hlt q hall
   simp -implicitDefEqProofs (maxSteps:=2000000) only [go_sem,↓reduceIte,q,f8,e,hg1]
  ·simp -implicitDefEqProofs (maxSteps:=2000000) only [go_sem,↓reduceIte,q,f0,f1,f7,f8]
   refine ⟨⟨hg1,f0,f1,f7,i+1,hlt,rfl,fun j hj hji=>?_⟩,?_⟩
   ·by_cases e:j=i
    ·subst e; exact q
    ·exact hall j hj (by omega)
   ·simp only [vi,updo_some,↓reduceIte,f8]; omega
 ·have hge:¬ (i:Int)<l.length:=by omega
  have e:=idxI_none (l:=l) (x:=x) fun j hj=>hall j hj (by omega)
  simp -implicitDefEqProofs (maxSteps:=2000000) only [go_sem,↓reduceIte,f7,f8,hge,e,hg]
theorem deleteCm_ok (T:World) (h:Hp) (o:Ow) (t:Tg) (v:Value) (m i:Nat) (cs:List Value) (s:OwnT o t 77 5 h v m cs) (d:Dom o h) (hone:cs.all oneC=true) (hi:i<m) (hm:m≤4611686018427387904) :
  CallsH Tryz.prog T 124 #[v,.int .i64 i,.int .i64 ((i:Int)+1)] h fun v' h'=>OwnT o t 77 5 h' v' (m - 1) (cs.take (i*5)++cs.drop ((i+1)*5))∧Kp (fun u=>u=t) o h o h':=by
 rcases s with ⟨⟨p,rfl⟩,rfl,rfl⟩ | ⟨b,off,cap,pre,spare,h1,rfl,h3,h4,h5,h6,h7⟩
 ·omega
 refine CallsH.of_code' (args:=[_,_,_]) Tryz.func124 rfl rfl rfl rfl ?_
 have e1:(i:Int)≤m:=by omega
 have e2:(i:Int)+1≤m:=by omega
 have e3:(m:Int)≤cap:=by omega
 have e4:(i:Int)≠i+1:=by omega
 have e5:((i:Int)+1).toNat=i+1:=by omega
 have e6:(0:Int)≤i+1:=by omega
 have e7:(i:Int)≤i+1:=by omega
 have e8:(i:Int)≤cap:=by omega
 have c0:cap≠0:=by omega
 simp -implicitDefEqProofs (maxSteps:=2000000) only [go_sem,↓reduceIte,e1,e2,e3,e4,e5,e6,e7,e8]
 refine VS.z (h.size) [6] (.p 0 (.p 1 (.p 2 (.p 3 (.p 4 (.p 5 (.w 6 (.p 7 .nil)))))))) mixed (by kernel_rfl) ?_
 simp -implicitDefEqProofs (maxSteps:=2000000) only [go_sem,↓reduceIte,e1,e2,e3,e4,e5,e6,e7,e8,c0]
 have hin:i*5≤m*5:=Nat.mul_le_mul_right _ (by omega)
 have hin1:(i+1)*5≤m*5:=Nat.mul_le_mul_right _ (by omega)
 have hmc:m*5≤cap*5:=Nat.mul_le_mul_right _ h7
 have blk:h[b]? = some (.cells (pre++(cs.take (i*5)++(cs.drop (i*5)++spare))).toArray 77 (0,0)):=by
  rw [← List.append_assoc (List.take _ _),List.take_append_drop]; exact h3
 have src:Sl 5 h (.slice (if cap=i+1 then some ⟨b,off,none⟩ else some ⟨b,off+(i+1)*5,none⟩) (m - (i+1)) (cap - (i+1))) (m - (i+1)) (cs.drop ((i+1)*5)):=by
  have:=(OwnT.tail (k:=i+1) (.inr ⟨b,off,cap,pre,spare,h1,rfl,h3,h4,h5,h6,h7⟩:OwnT o t 77 5 h (.slice (some ⟨b,off,none⟩) m cap) m cs) (by omega)).sl
  rw [Option.map_some,addr_add] at this
  exact this
 have nl:(cs.drop ((i+1)*5)).length=(m - (i+1))*5:=by rw [List.length_drop,h5,Nat.sub_mul]
 refine append_fit (E:=77) (n:=5) (m:=i) (k:=m - (i+1)) (cs:=cs.take (i*5)) tsl41 Tryz.underlying41 tn77 tz77 blk h4.symm (by rw [List.length_take]; omega) src (List.all_eq_true.2 fun x hx=>List.all_eq_true.1 hone x (List.mem_of_mem_drop hx)) (by omega) (by rw [List.length_append,List.length_drop,h5,← Nat.sub_mul]; have:(m - (i+1))*5≤(m - i)*5:=Nat.mul_le_mul_right _ (by omega); omega) ?_
 obtain ⟨g,hg⟩:∃ g:Hp,g=h.setIfInBounds b (.cells (pre++((cs.take (i*5)++cs.drop ((i+1)*5))++(cs.drop (i*5)++spare).drop ((m - (i+1))*5))).toArray 77 (0,0)):=⟨_,rfl⟩
 rw [← hg]
 have kg:Kp (fun u=>u=t) o h o g:=by rw [hg]; exact (Kp.refl d (fun u=>u=t)).set h1 rfl _
 have gb:=get_set (o:=.cells (pre++((cs.take (i*5)++cs.drop ((i+1)*5))++(cs.drop (i*5)++spare).drop ((m - (i+1))*5))).toArray 77 (0,0)) h3
 rw [← hg] at gb
 have e9:i+(m - (i+1))=m - 1:=by omega
 have f1:((m - 1:Nat):Int)≤m:=by omega
 have f2:(0:Int)≤((m - 1:Nat):Int):=by omega
 have f3:cap≠m - 1:=by omega
 have f4:(((m - 1:Nat):Int)).toNat=m - 1:=by omega
 have f5:(0:Int)≤m:=by omega
 have f6:((m - 1:Nat):Int)≤cap:=by omega
 rw [e9]
 simp -implicitDefEqProofs (maxSteps:=2000000) only [go_sem,↓reduceIte,e3,f1,f2,f3,f4,f5,f6]
 have tl:((cs.drop (i*5)++spare).drop ((m - (i+1))*5)).length=5+spare.length:=by
  rw [List.length_drop,List.length_append,List.length_drop,h5]
  have:(m - (i+1))*5+5=m*5 - i*5:=by rw [← Nat.sub_mul,← Nat.succ_mul]; congr 1; omega
  omega
 obtain ⟨tail,ht⟩:∃ tail,tail=(cs.drop (i*5)++spare).drop ((m - (i+1))*5):=⟨_,rfl⟩
 rw [← ht] at gb tl
 obtain ⟨body,hbd⟩:∃ body,body=cs.take (i*5)++cs.drop ((i+1)*5):=⟨_,rfl⟩
 have bl:body.length=(m - 1)*5:=by
  rw [hbd,List.length_append,List.length_take,nl,h5,Nat.min_eq_left hin,← Nat.add_mul]; congr 1
 rw [← hbd] at gb ⊢
 have gb2:g[b]? = some (.cells ((pre++body)++(tail.take 5++tail.drop 5)).toArray 77 (0,0)):=by
  rw [List.take_append_drop,List.append_assoc]; exact gb
 have e10:m - (m - 1)=1:=by omega
 rw [e10]
 refine clear_tag (E:=77) (n:=5) (k:=1) tsl41 tz77 rfl rfl gb2 (by rw [List.length_append,h4,bl]) (by rw [List.length_take]; omega) ?_
 intro new hnew
 simp -implicitDefEqProofs (maxSteps:=2000000) only [go_sem,↓reduceIte]
 have kk:=kg.set h1 rfl (.cells ((pre++body)++(new++tail.drop 5)).toArray 77 (0,0))
 refine ⟨.inr ⟨b,off,cap,pre,new++tail.drop 5,h1,rfl,?_,h4,bl,?_,by omega⟩,kk⟩
 ·rw [get_set gb2,List.append_assoc]
 ·rw [List.length_append,hnew,List.length_take,List.length_drop,tl,h6]
  have:(cap - (m - 1))*5=(cap - m)*5+5:=by rw [← Nat.succ_mul]; congr 1; omega
  omega
theorem deleteLt_ok (T:World) (h:Hp) (o:Ow) (t:Tg) (v:Value) (m i:Nat) (cs:List Value) (s:OwnT o t 98 14 h v m cs) (d:Dom o h) (hone:cs.all oneC=true) (hi:i<m) (hm:m≤4611686018427387904) :
  CallsH Tryz.prog T 43 #[v,.int .i64 i,.int .i64 ((i:Int)+1)] h fun v' h'=>OwnT o t 98 14 h' v' (m - 1) (cs.take (i*14)++cs.drop ((i+1)*14))∧Kp (fun u=>u=t) o h o h':=by
 rcases s with ⟨⟨p,rfl⟩,rfl,rfl⟩ | ⟨b,off,cap,pre,spare,h1,rfl,h3,h4,h5,h6,h7⟩
 ·omega
 refine CallsH.of_code' (args:=[_,_,_]) Tryz.func43 rfl rfl rfl rfl ?_
 have e1:(i:Int)≤m:=by omega
 have e2:(i:Int)+1≤m:=by omega
 have e3:(m:Int)≤cap:=by omega
 have e4:(i:Int)≠i+1:=by omega
 have e5:((i:Int)+1).toNat=i+1:=by omega
 have e6:(0:Int)≤i+1:=by omega
 have e7:(i:Int)≤i+1:=by omega
 have e8:(i:Int)≤cap:=by omega
 have c0:cap≠0:=by omega
 simp -implicitDefEqProofs (maxSteps:=2000000) only [go_sem,↓reduceIte,e1,e2,e3,e4,e5,e6,e7,e8]
 refine VS.z (h.size) [6] (.p 0 (.p 1 (.p 2 (.p 3 (.p 4 (.p 5 (.w 6 (.p 7 .nil)))))))) mixed (by kernel_rfl) ?_
 simp -implicitDefEqProofs (maxSteps:=2000000) only [go_sem,↓reduceIte,e1,e2,e3,e4,e5,e6,e7,e8,c0]
 have hin:i*14≤m*14:=Nat.mul_le_mul_right _ (by omega)
 have hin1:(i+1)*14≤m*14:=Nat.mul_le_mul_right _ (by omega)
 have hmc:m*14≤cap*14:=Nat.mul_le_mul_right _ h7
 have blk:h[b]? = some (.cells (pre++(cs.take (i*14)++(cs.drop (i*14)++spare))).toArray 98 (0,0)):=by
  rw [← List.append_assoc (List.take _ _),List.take_append_drop]; exact h3
 have src:Sl 14 h (.slice (if cap=i+1 then some ⟨b,off,none⟩ else some ⟨b,off+(i+1)*14,none⟩) (m - (i+1)) (cap - (i+1))) (m - (i+1)) (cs.drop ((i+1)*14)):=by
  have:=(OwnT.tail (k:=i+1) (.inr ⟨b,off,cap,pre,spare,h1,rfl,h3,h4,h5,h6,h7⟩:OwnT o t 98 14 h (.slice (some ⟨b,off,none⟩) m cap) m cs) (by omega)).sl
  rw [Option.map_some,addr_add] at this
  exact this
 have nl:(cs.drop ((i+1)*14)).length=(m - (i+1))*14:=by rw [List.length_drop,h5,Nat.sub_mul]
 refine append_fit (E:=98) (n:=14) (m:=i) (k:=m - (i+1)) (cs:=cs.take (i*14)) tsl53 Tryz.underlying53 tn98 tz98 blk h4.symm (by rw [List.length_take]; omega) src (List.all_eq_true.2 fun x hx=>List.all_eq_true.1 hone x (List.mem_of_mem_drop hx)) (by omega) (by rw [List.length_append,List.length_drop,h5,← Nat.sub_mul]; have:(m - (i+1))*14≤(m - i)*14:=Nat.mul_le_mul_right _ (by omega); omega) ?_
 obtain ⟨g,hg⟩:∃ g:Hp,g=h.setIfInBounds b (.cells (pre++((cs.take (i*14)++cs.drop ((i+1)*14))++(cs.drop (i*14)++spare).drop ((m - (i+1))*14))).toArray 98 (0,0)):=⟨_,rfl⟩
 rw [← hg]
 have kg:Kp (fun u=>u=t) o h o g:=by rw [hg]; exact (Kp.refl d (fun u=>u=t)).set h1 rfl _
 have gb:=get_set (o:=.cells (pre++((cs.take (i*14)++cs.drop ((i+1)*14))++(cs.drop (i*14)++spare).drop ((m - (i+1))*14))).toArray 98 (0,0)) h3
 rw [← hg] at gb
 have e9:i+(m - (i+1))=m - 1:=by omega
 have f1:((m - 1:Nat):Int)≤m:=by omega
 have f2:(0:Int)≤((m - 1:Nat):Int):=by omega
 have f3:cap≠m - 1:=by omega
 have f4:(((m - 1:Nat):Int)).toNat=m - 1:=by omega
 have f5:(0:Int)≤m:=by omega
 have f6:((m - 1:Nat):Int)≤cap:=by omega
 rw [e9]
 simp -implicitDefEqProofs (maxSteps:=2000000) only [go_sem,↓reduceIte,e3,f1,f2,f3,f4,f5,f6]
 have tl:((cs.drop (i*14)++spare).drop ((m - (i+1))*14)).length=14+spare.length:=by
  rw [List.length_drop,List.length_append,List.length_drop,h5]
  have:(m - (i+1))*14+14=m*14 - i*14:=by rw [← Nat.sub_mul,← Nat.succ_mul]; congr 1; omega
  omega
 obtain ⟨tail,ht⟩:∃ tail,tail=(cs.drop (i*14)++spare).drop ((m - (i+1))*14):=⟨_,rfl⟩
 rw [← ht] at gb tl
 obtain ⟨body,hbd⟩:∃ body,body=cs.take (i*14)++cs.drop ((i+1)*14):=⟨_,rfl⟩
 have bl:body.length=(m - 1)*14:=by
  rw [hbd,List.length_append,List.length_take,nl,h5,Nat.min_eq_left hin,← Nat.add_mul]; congr 1
 rw [← hbd] at gb ⊢
 have gb2:g[b]? = some (.cells ((pre++body)++(tail.take 14++tail.drop 14)).toArray 98 (0,0)):=by
  rw [List.take_append_drop,List.append_assoc]; exact gb
 have e10:m - (m - 1)=1:=by omega
 rw [e10]
 refine clear_tag (E:=98) (n:=14) (k:=1) tsl53 tz98 rfl rfl gb2 (by rw [List.length_append,h4,bl]) (by rw [List.length_take]; omega) ?_
 intro new hnew
 simp -implicitDefEqProofs (maxSteps:=2000000) only [go_sem,↓reduceIte]
 have kk:=kg.set h1 rfl (.cells ((pre++body)++(new++tail.drop 14)).toArray 98 (0,0))
 refine ⟨.inr ⟨b,off,cap,pre,new++tail.drop 14,h1,rfl,?_,h4,bl,?_,by omega⟩,kk⟩
 ·rw [get_set gb2,List.append_assoc]
 ·rw [List.length_append,hnew,List.length_take,List.length_drop,tl,h6]
  have:(cap - (m - 1))*14=(cap - m)*14+14:=by rw [← Nat.succ_mul]; congr 1; omega
  omega
section
variable {α:Type} {enc:α→List Value} {n:Nat}
theorem encs_take (henc:∀ x,(enc x).length=n) (l:List α) (i:Nat) (hi:i≤l.length):(encs enc l).take (i*n)=encs enc (l.take i):=by
 have h1:(encs enc (l.take i)).length=i*n:=by rw [encs_length henc,List.length_take,Nat.min_eq_left hi]
 have h2:encs enc l=encs enc (l.take i)++encs enc (l.drop i):=by rw [← encs_append,List.take_append_drop]
 rw [h2,← h1,List.take_left]
theorem encs_drop (henc:∀ x,(enc x).length=n) (l:List α) (i:Nat) (hi:i≤l.length):(encs enc l).drop (i*n)=encs enc (l.drop i):=by
 have h1:(encs enc (l.take i)).length=i*n:=by rw [encs_length henc,List.length_take,Nat.min_eq_left hi]
 have h2:encs enc l=encs enc (l.take i)++encs enc (l.drop i):=by rw [← encs_append,List.take_append_drop]
 rw [h2,← h1,List.drop_left]
theorem encs_set (henc:∀ x,(enc x).length=n) (l:List α) (i:Nat) (hi:i<l.length) (y:α):encs enc (l.set i y)=(encs enc l).take (i*n)++(enc y++(encs enc l).drop ((i+1)*n)):=by
 rw [List.set_eq_take_append_cons_drop,if_pos hi,encs_append,encs_take henc _ _ (by omega),encs_drop henc _ _ (by omega)]
 rfl
end
theorem cms_one (l:List Cm):(encs Cmv.C l).all oneC=true:=by
 induction l with
 | nil=>rfl
 | cons x l ih=>rw [encs,List.all_append,ih]; rfl
theorem filterCm_snoc {l:List Cm} {j:Nat} (hj:j<l.length) (q:Cm→Bool):(l.take (j+1)).filter q=(l.take j).filter q++if q l[j]=true then [l[j]] else []:=by
 rw [take_snoc l j hj,List.filter_append]
 congr 1
 cases h:q l[j] <;> simp [h]
theorem idxI_filter {l:List Cm} {x:Cm} {i:Nat} (h:idxI l x=i):i<l.length∧(l.take i).filter (fun y=>decide (y≠x))=l.take i∧l[i]? = some x:=by
 unfold idxI at h
 split at h
 ·rename_i hm
  have hi:l.idxOf x=i:=by omega
  have h1:l.idxOf x<l.length:=List.idxOf_lt_length_of_mem hm
  refine ⟨by omega,?_,?_⟩
  ·rw [List.filter_eq_self]
   intro y hy
   obtain ⟨k,hk,rfl⟩:=List.getElem_of_mem hy
   rw [List.length_take] at hk
   rw [List.getElem_take]
   have:=List.not_of_lt_findIdx (p:=(· == x)) (xs:=l) (i:=k) (show k<List.findIdx (· == x) l by rw [show List.findIdx (· == x) l=l.idxOf x from rfl]; omega)
   simpa using this
  ·rw [← hi,List.getElem?_eq_getElem h1,List.getElem_idxOf h1]
 ·omega
theorem deleteFn_ok (T:World) (h:Hp) (o:Ow) (t:Tg) (v:Value) (l:List Cm) (bx:Nat) (x:Cm) (s:CmsAt o t h v l) (d:Dom o h) (hb:BoxAt o h bx (.cells x.C.toArray 77)) (hl:l.length≤4611686018427387904) :
  CallsH Tryz.prog T 122 #[v,sameV bx] h fun v' h'=>CmsAt o t h' v' (l.filter fun y=>decide (y≠x))∧Kp (fun u=>u=t) o h o h':=by
 have ts:Ts Cmv.C 5 h v l:=⟨s.sl⟩
 obtain ⟨p,c,rfl,hcs⟩:=cms_open ts
 refine CallsH.of_code' (args:=[_,_]) Tryz.func122 rfl rfl rfl rfl ?_
 unfold sameV fnV
 simp -implicitDefEqProofs (maxSteps:=2000000) only [go_sem,↓reduceIte]
 refine (indexFn_ok T h _ l bx x ts hb.2 hl).use ?_
 rintro _ h1 ⟨rfl,b1⟩
 have k1:Kp (fun u=>u=t) o h o h1:=Kp.of_bel d b1 _
 by_cases hm:x∈l
 case neg=>
  have e:idxI l x = -1:=by unfold idxI; rw [if_neg hm]
  have e2:(l.filter fun y=>decide (y≠x))=l:=by
   rw [List.filter_eq_self]; intro y hy; simpa using fun q=>hm (by rw [← q]; exact hy)
  simp -implicitDefEqProofs (maxSteps:=2000000) only [go_sem,↓reduceIte,e,e2]
  exact ⟨CmsAt.keep (S:=fun _=>False) s (Kp.of_bel d b1 _) id,k1⟩
 obtain ⟨i0,hi0⟩:∃ i:Nat,idxI l x=i:=⟨l.idxOf x,by unfold idxI; rw [if_pos hm]⟩
 obtain ⟨hi,hf,hx⟩:=idxI_filter hi0
 rcases s with ⟨⟨q,h1'⟩,h2',h3'⟩ | ⟨b,off,cap,pre,spare,o1,hv,o3,o4,o5,o6,o7⟩
 ·omega
 simp only [Value.slice.injEq] at hv
 obtain ⟨rfl,_,rfl⟩:=hv
 have i1:¬ ((i0:Nat):Int) = -1:=by omega
 simp -implicitDefEqProofs (maxSteps:=2000000) only [go_sem,↓reduceIte,hi0,i1]
 obtain ⟨q,hq⟩:∃ q:Cm→Bool,q=fun y=>decide ¬ y=x:=⟨_,rfl⟩
 have hq':(fun y=>decide (y≠x))=q:=by rw [hq]
 have hqx:∀ y,q y=decide ¬ y=x:=fun y=>by rw [hq]
 rw [hq'] at hf
 rw [← hq]
 have hil:l[i0]=x:=by rw [List.getElem?_eq_getElem hi] at hx; exact Option.some.inj hx
 have sl:l.length≤c:=o7
 have el:∀ L:List Cm,(encs Cmv.C L).length=L.length*5:=fun L=>encs_length (n:=5) C_len L
 refine VS.loop' (fun F g=>F 0=.slice (some ⟨b,off,none⟩) l.length c∧F 1=sameV bx∧Kp (fun u=>u=t) o h o g∧∃ (i j:Nat) (L:List Cm),F 5=.int .i64 i∧F 6=.int .i64 j∧j≤l.length∧i<j∧L.length=l.length∧L.take i=(l.take j).filter q∧L.drop j=l.drop j∧i=((l.take j).filter q).length ∧
   g[b]? = some (.cells (pre++(encs Cmv.C L++spare)).toArray 77 (0,0)))
  (fun F _=>l.length - (vi (F 6)).toNat) rfl ⟨rfl,rfl,k1,i0,i0+1,l,rfl,?_,by omega,by omega,rfl,?_,rfl,?_,b1.get (lt_of_get o3) o3⟩ ?_
 ·show Value.int .i64 _=_
  congr 1
 ·rw [filterCm_snoc hi,hf,hil,hqx,if_neg (by simp),List.append_nil]
 ·rw [filterCm_snoc hi,hf,hil,hqx,if_neg (by simp),List.append_nil,List.length_take]; omega
 rintro F g ⟨f0,f1,kg,i,j,L,f5,f6,hj,hij,hL,hLi,hLj,hfi,gb⟩
 unfold sameV fnV at f1
 simp only [List.map] at f1
 have gl:=lt_of_get gb
 by_cases hlt:j<l.length
 ·have hlt':(j:Int)<l.length:=by omega
  have hjL:L[j]? = l[j]?:=by
   have:=congrArg (fun z=>z[0]?) hLj
   simpa using this
  have hjl:j<L.length:=by omega
  have hjE:L[j]=l[j]:=by
   rw [List.getElem?_eq_getElem hjl,List.getElem?_eq_getElem hlt] at hjL
   exact Option.some.inj hjL
  have ow:OwnT o t 77 5 g (.slice (some ⟨b,off,none⟩) L.length c) L.length (encs Cmv.C L):=.inr ⟨b,off,c,pre,spare,o1,rfl,gb,o4,el L,by rw [hL]; exact o6,by omega⟩
  obtain ⟨p2,c2,hv2,hc2⟩:=cms_open (⟨ow.sl⟩:Ts Cmv.C 5 g _ L)
  obtain ⟨bb,oo,hp2,_,hr⟩:=hc2 (by intro e; rw [e] at hjl; simp at hjl)
  subst hp2
  simp only [Value.slice.injEq,Option.some.injEq,Addr.mk.injEq] at hv2
  obtain ⟨⟨rfl,rfl,_⟩,_,rfl⟩:=hv2
  have r1:rd g ⟨b,off+j*5,none⟩ 5=some (l[j]).C:=by rw [hr j hjl,hjE]
  simp -implicitDefEqProofs (maxSteps:=2000000) only [go_sem,↓reduceIte,f0,f1,f5,f6,hlt',r1]
  have bxg:=hb.keep kg
  have bxl:bx≠g.size:=by have:=lt_of_get bxg.2; omega
  refine (sameCm_ok T _ bx x l[j] (by rw [get_push_ne (lt_of_get bxg.2)]; exact bxg.2)).use ?_
  rintro _ g1 ⟨rfl,b1'⟩
  have bp:Bel g.size g g1:=(Bel.push (Nat.le_refl _) _).trans (b1'.mono (by simp))
  have kg1:Kp (fun u=>u=t) o h o g1:=kg.bel bp
  have gb1:=bp.get gl gb
  have ybox:g1[g.size]? = some (.cells (l[j]).C.toArray 77):=b1'.get (by simp) get_push_last
  have yr:rd g1 ⟨g.size,0,none⟩ 5=some (l[j]).C:=rd_last ybox rfl
  have fs:=filterCm_snoc hlt q
  have hd1:∀ L':List Cm,L'.drop j=l.drop j→L'.drop (j+1)=l.drop (j+1):=fun L' h=>by
   rw [← List.drop_drop,← List.drop_drop,h]
  by_cases hxj:l[j]=x
  ·have fs':(l.take (j+1)).filter q=(l.take j).filter q:=by rw [fs,hqx,if_neg (by simp [hxj]),List.append_nil]
   simp -implicitDefEqProofs (maxSteps:=2000000) only [go_sem,↓reduceIte,hxj,f0,f1,f5,f6]
   refine ⟨⟨f0,f1,kg1,i,j+1,L,f5,rfl,hlt,by omega,hL,by rw [fs']; exact hLi,hd1 L hLj,by rw [fs']; exact hfi,gb1⟩,?_⟩
   simp only [vi,updo_some,↓reduceIte,f6]; omega
  ·have fs':(l.take (j+1)).filter q=(l.take j).filter q++[l[j]]:=by rw [fs,hqx,if_pos (by simp [hxj])]
   have i0':(0:Int)≤i:=by omega
   have i1':(i:Int)<l.length:=by omega
   have hiL:i<L.length:=by omega
   have w1:=wr_get gb1 (off+i*5) (l[j]).C
   have eL:lput (pre++(encs Cmv.C L++spare)) (off+i*5) (l[j]).C=pre++(encs Cmv.C (L.set i l[j])++spare):=by
    have e1:encs Cmv.C L=(encs Cmv.C L).take (i*5)++(((encs Cmv.C L).drop (i*5)).take 5++(encs Cmv.C L).drop ((i+1)*5)):=by
     have:(encs Cmv.C L).drop ((i+1)*5)=((encs Cmv.C L).drop (i*5)).drop 5:=by rw [List.drop_drop]; congr 1; omega
     rw [this,List.take_append_drop,List.take_append_drop]
    have hle:(i+1)*5≤(encs Cmv.C L).length:=by rw [el]; omega
    rw [encs_set C_len L i hiL]
    conv=>lhs; rw [e1]
    have e2:pre++(((encs Cmv.C L).take (i*5)++(((encs Cmv.C L).drop (i*5)).take 5++(encs Cmv.C L).drop ((i+1)*5)))++spare)=(pre++(encs Cmv.C L).take (i*5))++(((encs Cmv.C L).drop (i*5)).take 5++((encs Cmv.C L).drop ((i+1)*5)++spare)):=by simp only [List.append_assoc]
    rw [e2,lput_at (by rw [List.length_append,o4,List.length_take]; omega) (by rw [List.length_take,List.length_drop,C_len]; omega)]
    simp only [List.append_assoc]
   rw [eL,if_pos ⟨by rw [List.length_append,List.length_append,o4,el,C_len]; omega,cm_all _⟩] at w1
   simp -implicitDefEqProofs (maxSteps:=2000000) only [go_sem,↓reduceIte,hxj,f0,f1,f5,f6,yr,i0',i1',w1]
   refine ⟨⟨f0,f1,kg1.set o1 rfl _,i+1,j+1,L.set i l[j],rfl,rfl,hlt,by omega,by rw [List.length_set,hL],?_,?_,?_,get_set gb1⟩,?_⟩
   ·rw [take_snoc _ i (by rw [List.length_set]; exact hiL),List.take_set_of_le (Nat.le_refl _),List.getElem_set_self,fs',← hLi]
   ·refine hd1 _ ?_
    rw [← hLj,List.drop_set_of_lt (by omega)]
   ·rw [fs',List.length_append,← hfi]; rfl
   ·simp only [vi,updo_some,↓reduceIte,f6]; omega
 ·have hge:¬ (j:Int)<l.length:=by omega
  obtain rfl:j=l.length:=by omega
  rw [List.take_length] at hLi hfi
  have hiL:i≤L.length:=by omega
  have gb2:g[b]? = some (.cells ((pre++encs Cmv.C (L.take i))++(encs Cmv.C (L.drop i)++spare)).toArray 77 (0,0)):=by
   rw [← encs_take C_len L i hiL,← encs_drop C_len L i hiL]
   have:(pre++(encs Cmv.C L).take (i*5))++((encs Cmv.C L).drop (i*5)++spare)=pre++(encs Cmv.C L++spare):=by
    rw [List.append_assoc,← List.append_assoc (List.take _ _),List.take_append_drop]
   rw [this]; exact gb
  have tl:(encs Cmv.C (L.take i)).length=i*5:=by rw [el,List.length_take,Nat.min_eq_left hiL]
  simp -implicitDefEqProofs (maxSteps:=2000000) only [go_sem,↓reduceIte,f0,f5,f6,hge]
  refine clear_tag (E:=77) (n:=5) (k:=l.length - i) tsl41 tz77 rfl rfl gb2 (by rw [List.length_append,o4,tl]) (by rw [el,List.length_drop,hL]) ?_
  intro new hnew
  have i2:(i:Int)≤c:=by omega
  simp -implicitDefEqProofs (maxSteps:=2000000) only [go_sem,↓reduceIte,i2,f0,f5]
  have e:(encs Cmv.C (L.take i))=encs Cmv.C (l.filter q):=by rw [hLi]
  refine ⟨.inr ⟨b,off,c,pre,new++spare,o1,by rw [← hfi],?_,o4,el _,?_,by omega⟩,kg.set o1 rfl _⟩
  ·rw [get_set gb2,← e,List.append_assoc]
  ·rw [List.length_append,hnew,el,List.length_drop,o6,hL,← hfi,← Nat.add_mul]; congr 1; omega
@[go_sem] theorem vt_fit (x:Vt):fitK [some .i64,some .i64,some .i64,some .i64,some .i64,some .i64,some .i64,some .i64] (voteC x)=true:=rfl
@[go_sem] theorem vt_leq (x y:Vt):leq (voteC x) (voteC y)=decide (x=y):=by
 obtain ⟨a,⟨b,c⟩,d,e,f,g,k⟩:=x
 obtain ⟨a',⟨b',c'⟩,d',e',f',g',k'⟩:=y
 unfold voteC
 rw [Bool.eq_iff_iff]
 simp [leq,ceq,Vt.mk.injEq,and_assoc]
@[go_sem] theorem bal_fit (x:Bal):fitK [some .i64,some .i64] (balC x)=true:=rfl
@[go_sem] theorem bal_leq (x y:Bal):leq (balC x) (balC y)=decide (x=y):=by
 obtain ⟨a,b⟩:=x
 obtain ⟨a',b'⟩:=y
 unfold balC
 rw [Bool.eq_iff_iff]
 simp [leq,ceq,Bal.mk.injEq]
@[go_sem] theorem V_len (x:Vt):(voteC x).length=8:=rfl
theorem vts_open {h:Hp} {v:Value} {l:List Vt} (s:Ts voteC 8 h v l):∃ p c,v=.slice p l.length c∧(l≠[]→∃ b o,p=some ⟨b,o,none⟩∧b<h.size∧∀ i (hi:i<l.length),rd h ⟨b,o+i*8,none⟩ 8=some (voteC l[i])):=by
 obtain ⟨p,c,hv,hh⟩:=s.open V_len (by decide)
 refine ⟨p,c,hv,fun hne=>?_⟩
 obtain ⟨b,o,h1,h2,h3⟩:=hh hne
 exact ⟨b,o,h1,h2,fun i hi=>(h3 i hi).rd (by simp [voteC]) rfl⟩
theorem indexVt_ok (T:World) (h:Hp) (v:Value) (l:List Vt) (x:Vt) (s:Ts voteC 8 h v l) (hl:l.length≤4611686018427387904) :
  CallsH Tryz.prog T 125 #[v,.agg (voteC x).toArray] h fun v' h'=>(∃ i:Int,v'=.int .i64 i∧(0≤i↔x∈l))∧Bel h.size h h':=by
 obtain ⟨p,c,rfl,hcs⟩:=vts_open s
 refine CallsH.of_code' (args:=[_,_]) Tryz.func125 rfl rfl rfl rfl ?_
 simp -implicitDefEqProofs (maxSteps:=2000000) only [go_sem,↓reduceIte]
 obtain ⟨h1,hh1⟩:∃ h1:Hp,h1=h.push (.cells (voteC x).toArray 96):=⟨_,rfl⟩
 have b1:Bel h.size h h1:=by rw [hh1]; exact Bel.push (Nat.le_refl _) _
 have x1:h1[h.size]? = some (.cells (voteC x).toArray 96):=by rw [hh1]; exact get_push_last
 rw [← hh1]
 clear hh1
 refine VS.loop' (fun F g=>g=h1∧F 0=.slice p l.length c∧F 3=.pointer (some ⟨h.size,0,none⟩)∧F 7=.int .i64 l.length∧∃ i:Nat,i≤l.length∧F 8=.int .i64 i∧∀ j (hj:j<l.length),j<i→l[j]≠x)
  (fun F _=>l.length - (vi (F 8)).toNat) rfl ⟨rfl,rfl,rfl,rfl,0,by omega,rfl,fun j hj q=>by omega⟩ ?_
 rintro F g ⟨rfl,f0,f3,f7,i,hi,f8,hall⟩
 by_cases hlt:i<l.length
 ·have hlt':(i:Int)<l.length:=by omega
  obtain ⟨bb,oo,rfl,hbb,hcs0⟩:=hcs (by intro e; rw [e] at hlt; simp at hlt)
  have r1:rd g ⟨bb,oo+i*8,none⟩ 8=some (voteC l[i]):=by rw [rd_bel b1 (by exact hbb)]; exact hcs0 i hlt
  have r0:rd g ⟨h.size,0,none⟩ 8=some (voteC x):=rd_last x1 rfl
  simp -implicitDefEqProofs (maxSteps:=2000000) only [go_sem,↓reduceIte,f0,f3,f7,f8,hlt']
  refine VS.q mixed (by kernel_rfl) ?_
  simp -implicitDefEqProofs (maxSteps:=2000000) only [go_sem,↓reduceIte,f0,f3,f7,f8,hlt',r1,r0]
  by_cases q:l[i]=x
  ·rw [q]
   simp -implicitDefEqProofs (maxSteps:=2000000) only [go_sem,↓reduceIte,b1]
   exact ⟨_,rfl,fun _=>q ▸ List.getElem_mem hlt,fun _=>by omega⟩
  ·have q':¬ x=l[i]:=fun e=>q e.symm
   simp -implicitDefEqProofs (maxSteps:=2000000) only [go_sem,↓reduceIte,q',f0,f3,f7,f8]
   refine ⟨⟨rfl,f0,f3,f7,i+1,hlt,rfl,fun j hj hji=>?_⟩,?_⟩
   ·by_cases e:j=i
    ·subst e; exact q
    ·exact hall j hj (by omega)
   ·simp only [vi,updo_some,↓reduceIte,f8]; omega
 ·have hge:¬ (i:Int)<l.length:=by omega
  have hx:x ∉ l:=fun hm=>by obtain ⟨j,hj,he⟩:=List.getElem_of_mem hm; exact hall j hj (by omega) he
  simp -implicitDefEqProofs (maxSteps:=2000000) only [go_sem,↓reduceIte,f7,f8,hge,b1,hx]
  exact ⟨-1,rfl,fun q=>by omega,fun q=>q.elim⟩
theorem containsVt_ok (T:World) (h:Hp) (v:Value) (l:List Vt) (x:Vt) (s:Ts voteC 8 h v l) (hl:l.length≤4611686018427387904) :
  CallsH Tryz.prog T 94 #[v,.agg (voteC x).toArray] h fun v' h'=>v'=.bool (decide (x∈l))∧Bel h.size h h':=by
 obtain ⟨p,c,rfl,hcs⟩:=vts_open s
 refine CallsH.of_code' (args:=[_,_]) Tryz.func94 rfl rfl rfl rfl ?_
 simp -implicitDefEqProofs (maxSteps:=2000000) only [go_sem,↓reduceIte]
 refine (indexVt_ok T _ _ l x (s.bel ((Bel.refl _ _).add _)) hl).use ?_
 rintro _ h2 ⟨⟨i,rfl,hi⟩,b2⟩
 have b:Bel h.size h h2:=((Bel.refl _ _).add _).trans (b2.mono (by simp))
 simp -implicitDefEqProofs (maxSteps:=2000000) only [go_sem,↓reduceIte,hi,b]
theorem later_ok (T:World) (h:Hp) (a b:Bal):CallsH Tryz.prog T 68 #[.agg (balC a).toArray,.agg (balC b).toArray] h fun v' h'=>v'=.bool (decide (below b a))∧Bel h.size h h':=by
 refine CallsH.of_code' (args:=[_,_]) Tryz.func68 rfl rfl rfl rfl ?_
 unfold balC
 by_cases q1:b.r<a.r
 ·have e:below b a:=.inl q1
  simp -implicitDefEqProofs (maxSteps:=2000000) only [go_sem,↓reduceIte,q1,e]
  (repeat' (first | exact Bel.refl _ _ | assumption | refine Bel.add ?_ _ | refine Bel.addSet ?_ (by first | omega | (simp; omega)) _ | refine Bel.trans (by assumption) ?_))
 ·by_cases q2:a.r=b.r
  ·by_cases q3:b.n<a.n
   ·have e:below b a:=.inr ⟨q2.symm,q3⟩
    simp -implicitDefEqProofs (maxSteps:=2000000) only [go_sem,↓reduceIte,q1,q2,q3,e]
    (repeat' (first | exact Bel.refl _ _ | assumption | refine Bel.add ?_ _ | refine Bel.addSet ?_ (by first | omega | (simp; omega)) _ | refine Bel.trans (by assumption) ?_))
   ·have e:¬ below b a:=fun h=>by rcases h with h | ⟨_,h⟩ <;> omega
    simp -implicitDefEqProofs (maxSteps:=2000000) only [go_sem,↓reduceIte,q1,q2,q3,e]
    (repeat' (first | exact Bel.refl _ _ | assumption | refine Bel.add ?_ _ | refine Bel.addSet ?_ (by first | omega | (simp; omega)) _ | refine Bel.trans (by assumption) ?_))
  ·have e:¬ below b a:=fun h=>by rcases h with h | ⟨h,_⟩ <;> omega
   simp -implicitDefEqProofs (maxSteps:=2000000) only [go_sem,↓reduceIte,q1,q2,e]
   (repeat' (first | exact Bel.refl _ _ | assumption | refine Bel.add ?_ _ | refine Bel.addSet ?_ (by first | omega | (simp; omega)) _ | refine Bel.trans (by assumption) ?_))
theorem most_ok (T:World) (h:Hp) (n:Nat) (hn:n≤1000000000000):CallsH Tryz.prog T 91 #[.int .i64 n] h fun v' h'=>v'=.bool (decide (5<2*n))∧h'=h:=by
 refine CallsH.of_code' (args:=[_]) Tryz.func91 rfl rfl rfl rfl ?_
 have e:((5:Int)<2*(n:Int))=(5<2*n):=by apply propext; omega
 simp -implicitDefEqProofs (maxSteps:=2000000) only [go_sem,↓reduceIte,e]
theorem CmsAt.ts {o:Ow} {t:Tg} {h:Hp} {v:Value} {l:List Cm} (s:CmsAt o t h v l):Ts Cmv.C 5 h v l:=⟨OwnT.sl s⟩
theorem append_cm {T:World} {K:Value→Hp→Prop} {ty:TypeId} {o:Ow} {t:Tg} {h:Hp} {v:Value} {l:List Cm} {x:Cm} {bx:Nat} {cb:Array Bool} (s:CmsAt o t h v l) (d:Dom o h) (hb:h[bx]? = some (.cells x.C.toArray 77)) (hr:l.length≤1000000000000)
  (H:∀ p c o' h',CmsAt o' t h' (.slice p (l.length+1) c) (l++[x])→Kp (fun u=>u=t) o h o' h'→K (.slice p (l.length+1) c) h') :
  vBi Tryz.prog T .append #[41,41] ty cb [v,.slice (some ⟨bx,0,none⟩) 1 1] K h:=by
 have src:Sl 5 h (.slice (some ⟨bx,0,none⟩) 1 1) 1 x.C:=⟨_,1,rfl,rfl,fun _=>⟨bx,0,rfl,fun i hi=>by
  rw [hc_last hb,nth_eq,Nat.zero_add]; exact List.getElem?_eq_getElem hi⟩⟩
 refine append_tag (E:=77) (n:=5) (bytes:=40) (k:=1) tsl41 Tryz.underlying41 tn77 tz77 rfl tb77 s d src (cm_all x) (by omega) (by omega) ?_
 intro v' o' h' w k _
 obtain ⟨p,c,rfl,_⟩:=w.isSlice
 refine H p c o' h' ?_ k
 unfold CmsAt
 rw [encs_append,encs_one,List.length_append]
 exact w
def addT (i:Nat) (t:Tg):Prop:=t=.node i∨t=.queue i
theorem add_ok (T:World) (h:Hp) (o:Ow) (wb i nb:Nat) (a:NA) (n:Nd) (x:Cm) (d:Dom o h) (N:NodeAt o h wb i nb a n) (hq:n.queue.length≤1000000000000) (hl:n.log.length≤1000000000000) :
  CallsH Tryz.prog T 38 #[ptrV nb,cmA x] h fun v' h'=>∃ o' a',Kp (addT i) o h o' h'∧NodeAt o' h' wb i nb a' (add n x):=by
 have hnb:=lt_of_get N.blk.2
 have R:=node_rd N.blk.2 N.pt.store.len
 refine CallsH.of_code' (args:=[_,_]) Tryz.func38 rfl rfl rfl rfl ?_
 unfold ptrV cmA
 have e1:nb≠h.size:=by omega
 simp -implicitDefEqProofs (maxSteps:=2000000) only [go_sem,↓reduceIte]
 obtain ⟨h1,hh1⟩:∃ h1:Hp,h1=h.push (.cells x.C.toArray 77):=⟨_,rfl⟩
 have k1:Kp noT o h o h1:=by rw [hh1]; exact kp_push d _
 have x1:BoxAt o h1 h.size (.cells x.C.toArray 77):=⟨d _ (Nat.le_refl _),by rw [hh1]; exact get_push_last⟩
 rw [← hh1]
 have N1:=N.still k1
 clear hh1
 have R1:=node_rd N1.blk.2 N1.pt.store.len
 have hnb1:=lt_of_get N1.blk.2
 have hs1:=lt_of_get x1.2
 have r1:rd h1 ⟨h.size,0,none⟩ 5=some x.C:=rd_last x1.2 rfl
 refine VS.z (h1.size) [13] (.p 0 (.p 1 (.p 2 (.q 3 (.q 4 (.s 5 (.p 6 (.p 7 (.p 8 (.p 9 (.p 10 (.q 11 (.q 12 (.w 13 (.p 14 (.p 15 .nil)))))))))))))))) mixed (by kernel_rfl) ?_
 simp -implicitDefEqProofs (maxSteps:=2000000) only [go_sem,↓reduceIte,R1.queue,hnb1,r1,hs1]
 refine (containsCm_ok T h1 _ n.queue x N1.pt.queue.ts (by omega)).use ?_
 rintro _ h2 ⟨rfl,b2⟩
 by_cases q1:x∈n.queue
 ·have e:add n x=n:=by unfold add; rw [if_pos (.inl q1)]
  simp -implicitDefEqProofs (maxSteps:=2000000) only [go_sem,↓reduceIte,q1,b2,e]
  exact ⟨o,a,(kp_any k1).bel b2,N1.still (kp_still k1.dom b2)⟩
 simp -implicitDefEqProofs (maxSteps:=2000000) only [go_sem,↓reduceIte,q1,b2,R1.log,hnb1,r1,hs1]
 have k2:=kp_still k1.dom b2
 refine (containsCm_ok T h2 _ n.log x (N1.still k2).pt.log.ts (by omega)).use ?_
 rintro _ h3 ⟨rfl,b3⟩
 have b13:Bel h1.size h1 h3:=b2.trans (b3.mono b2.size)
 have k3:=kp_still k1.dom b13
 by_cases q2:x∈n.log
 ·have e:add n x=n:=by unfold add; rw [if_pos (.inr q2)]
  simp -implicitDefEqProofs (maxSteps:=2000000) only [go_sem,↓reduceIte,q2,b13,e]
  exact ⟨o,a,(kp_any k1).bel b13,N1.still k3⟩
 have e:add n x = { n with queue:=n.queue++[x] }:=by unfold add; rw [if_neg (fun q=>q.elim q1 q2)]
 simp -implicitDefEqProofs (maxSteps:=2000000) only [go_sem,↓reduceIte,q2,b13,e]
 have N3:=N1.still k3
 have x3:=x1.keep k3
 have R3:=node_rd N3.blk.2 N3.pt.store.len
 have hnb3:=lt_of_get N3.blk.2
 have hs3:=lt_of_get x3.2
 have r3:rd h3 ⟨h.size,0,none⟩ 5=some x.C:=rd_last x3.2 rfl
 refine VS.z (h3.size) [7,10] (.p 0 (.p 1 (.p 2 (.p 3 (.q 4 (.q 5 (.s 6 (.w 7 (.p 8 (.p 9 (.w 10 .nil))))))))))) mixed (by kernel_rfl) ?_
 simp -implicitDefEqProofs (maxSteps:=2000000) only [go_sem,↓reduceIte,R3.queue,hnb3,r3,hs3]
 have k4:=kp_push k3.dom (.cells x.C.toArray 77)
 have N4:=N3.still k4
 refine append_cm (l:=n.queue) N4.pt.queue k4.dom get_push_last hq ?_
 intro p c o5 h5 w5 k5
 have b5:=N4.blk.keep k5 (by intro e; cases e)
 have W5:=node_wr b5.2 N4.pt.store.len
 have w:=W5.queue (.slice p (n.queue.length+1) c) rfl
 simp -implicitDefEqProofs (maxSteps:=2000000) only [go_sem,↓reduceIte,w]
 exact ⟨o5,_,(((kp_any k1).bel b13).push _).trans (k5.mono fun u q=>.inr q) |>.set b5.1 (.inl rfl) _,(N4.pt.keepQueue k5 w5).put k5.dom b5⟩
def learnT' (i:Nat) (t:Tg):Prop:=t=.world∨t=.told∨t=.node i∨t=.known i∨t=.log i∨t=.queue i∨t=.waiting i
theorem keys_few {β:Type}:∀ (l:List (Int × β)) (ks:List Int),ks.Nodup→(∀ k∈ks,(lkp l k).isSome=true)→ks.length≤l.length:=by
 intro l
 induction l with
 | nil=>
  intro ks _ h
  cases ks with
  | nil=>simp
  | cons k ks=>have:=h k (by simp); simp [lkp] at this
 | cons x l ih=>
  intro ks hn h
  obtain ⟨a,v⟩:=x
  have h1:(ks.erase a).length≤l.length:=ih _ (hn.erase a) fun k hk=>by
   have hk':=(List.Nodup.mem_erase_iff hn).1 hk
   have:=h k hk'.2
   unfold lkp at this
   rw [if_neg (fun e=>hk'.1 e.symm)] at this
   exact this
  have h2:ks.length≤(ks.erase a).length+1:=by
   rw [List.length_erase]; split <;> omega
  simp only [List.length_cons]; omega
theorem keys_run {β:Type} (l:List (Int × β)) (a m:Nat) (h:∀ j,j<m→(lkp l ((a+j:Nat):Int)).isSome=true):m≤l.length:=by
 have:=keys_few l ((List.range m).map fun j=>((a+j:Nat):Int)) ?_ ?_
 ·simpa using this
 ·rw [List.nodup_iff_pairwise_ne,List.pairwise_map]
  exact (List.nodup_range (n:=m)).imp fun {x y} hxy he=>hxy (by omega)
 ·intro k hk
  simp only [List.mem_map,List.mem_range] at hk
  obtain ⟨j,hj,rfl⟩:=hk
  exact h j hj
theorem do_call (T:World) (h:Hp) (cs:List Value) (s:StOk cs) (x:Cm):CallsH Tryz.prog T 37 #[.agg cs.toArray,cmA x] h fun v' h'=>v'=.tuple #[.agg (doSt cs x).toArray,.agg #[.int .i64 (doCode cs x),.int .i64 (doVal cs x)],.int .i64 (chnE cs x)]∧Bel h.size h h':=by
 refine (vaultDo_ok T h cs x.k x.c x.s x.n x.v s.fit s.num s.yes).mono ?_
 rintro v' h' ⟨H,b⟩
 refine ⟨?_,b⟩
 rw [H]
 unfold doL doSt doCode doVal chnE doneC
 by_cases e:doErr cs x.k x.c x.s x.n x.v=0
 ·rw [if_pos e,if_pos e,if_pos e,if_pos e,e]
 ·rw [if_neg e,if_neg e,if_neg e,if_neg e]
theorem StOk.of_fit {cs:List Value} (h:fitK storeK cs=true):StOk cs:=⟨h,store_ints h,store_bools h⟩
theorem StOk.do {cs:List Value} (s:StOk cs) (x:Cm):StOk (doSt cs x):=by
 obtain ⟨D,a,b,h1,h2,_⟩:=doL_chn s.fit x
 refine StOk.of_fit ?_
 unfold doL at h1
 unfold doSt chnE doneC
 by_cases e:doErr cs x.k x.c x.s x.n x.v=0
 ·rw [if_pos e] at h1 ⊢
  simp only [List.cons.injEq,Value.agg.injEq,Array.mk.injEq] at h1
  rw [h1.1]; exact h2
 ·rw [if_neg e] at h1 ⊢
  simp only [List.cons.injEq,Value.agg.injEq,Array.mk.injEq] at h1
  rw [h1.1]; exact h2
theorem append_told {T:World} {K:Value→Hp→Prop} {ty:TypeId} {o:Ow} {t:Tg} {h:Hp} {v:Value} {l:List Tld} {x:Tld} {bx:Nat} {cb:Array Bool} (s:OwnT o t 116 5 h v l.length (encs tldC l)) (d:Dom o h) (hb:h[bx]? = some (.cells (tldC x).toArray 116)) (hr:l.length≤1000000000000)
  (H:∀ p c o' h',OwnT o' t 116 5 h' (.slice p (l.length+1) c) (l++[x]).length (encs tldC (l++[x]))→Kp (fun u=>u=t) o h o' h'→K (.slice p (l.length+1) c) h') :
  vBi Tryz.prog T .append #[27,27] ty cb [v,.slice (some ⟨bx,0,none⟩) 1 1] K h:=by
 have src:Sl 5 h (.slice (some ⟨bx,0,none⟩) 1 1) 1 (tldC x):=⟨_,1,rfl,rfl,fun _=>⟨bx,0,rfl,fun i hi=>by
  rw [hc_last hb,nth_eq,Nat.zero_add]; exact List.getElem?_eq_getElem hi⟩⟩
 refine append_tag (E:=116) (n:=5) (bytes:=40) (k:=1) tsl27 Tryz.underlying27 tn116 tz116 rfl tb116 s d src rfl (by omega) (by omega) ?_
 intro v' o' h' w k _
 obtain ⟨p,c,rfl,_⟩:=w.isSlice
 refine H p c o' h' ?_ k
 rw [encs_append,encs_one,List.length_append]
 exact w
theorem WorldAt.putTold {o o1:Ow} {h h1:Hp} {wb:Nat} {nb:Nat→Nat} {a:WA} {fl:List Ltr} {bad:Nat→Int} {told told':List Tld} {v:Value} (W:WorldAt o h wb nb a fl bad told) (k:Kp (fun t=>t=.told) o h o1 h1)
  (hv:OwnT o1 .told 116 5 h1 v told'.length (encs tldC told')) {e:Option Hp} (w:e=some (h1.setIfInBounds wb (.cells (worldC bad { a with told:=v }).toArray 55))) :
  ∃ g,e=some g∧WorldAt o1 g wb nb { a with told:=v } fl bad told'∧Kp (fun t=>t=.world) o1 h1 o1 g:=by
 have b:=W.blk.keep k (by intro e; cases e)
 have kk:Kp (fun t=>t=.world) o1 h1 o1 (h1.setIfInBounds wb (.cells (worldC bad { a with told:=v }).toArray 55)):=(Kp.refl k.dom (fun t=>t=.world)).set b.1 rfl _
 exact ⟨_,w,⟨⟨b.1,get_set b.2⟩,(W.nodes.keep k (by intro e; cases e)).keep kk (by intro e; cases e),(W.flying.keep k (by intro e; cases e)).keep kk (by intro e; cases e),hv.keep kk (by intro e; cases e)⟩,kk⟩
def slenO:Option Value→Nat
 | some (.slice _ l _)=>l
 | _=>0
set_option maxHeartbeats 1000000 in
theorem learn_ok (T:World) (h:Hp) (o:Ow) (wb i nb:Nat) (nbs:Nat→Nat) (a:NA) (n:Nd) (WA0:WA) (fl:List Ltr) (bad:Nat→Int) (told:List Tld) (s:Int) (x:Cm) (d:Dom o h)
  (N:NodeAt o h wb i nb a n) (W:WorldAt o h wb nbs WA0 fl bad told) (hk:n.known.length≤100000000000) (hl:n.log.length≤100000000000) (ht:told.length≤100000000000) (hq:n.queue.length≤1000000000000) (hw:n.waiting.length≤1000000000000) :
  CallsH Tryz.prog T 92 #[ptrV wb,ptrV nb,.int .i64 s,cmA x] h fun v' h'=>∃ o' a' WA',Kp (learnT' i) o h o' h'∧NodeAt o' h' wb i nb a' (learn n s x).n∧WorldAt o' h' wb nbs WA' fl bad (told++(learn n s x).ts):=by
 have hnb:=lt_of_get N.blk.2
 have hwb:=lt_of_get W.blk.2
 refine CallsH.of_code' (args:=[_,_,_,_]) Tryz.func92 rfl rfl rfl rfl ?_
 unfold ptrV cmA
 simp -implicitDefEqProofs (maxSteps:=2000000) only [go_sem,↓reduceIte]
 obtain ⟨h1,hh1⟩:∃ h1:Hp,h1=h.push (.cells x.C.toArray 77):=⟨_,rfl⟩
 have k1:Kp noT o h o h1:=by rw [hh1]; exact kp_push d _
 have x1:BoxAt o h1 h.size (.cells x.C.toArray 77):=⟨d _ (Nat.le_refl _),by rw [hh1]; exact get_push_last⟩
 rw [← hh1]
 have N1:=N.still k1
 have W1:=W.still k1
 clear hh1
 have R1:=node_rd N1.blk.2 N1.pt.store.len
 have hnb1:=lt_of_get N1.blk.2
 have hs1:=lt_of_get x1.2
 have r1:rd h1 ⟨h.size,0,none⟩ 5=some x.C:=rd_last x1.2 rfl
 refine VS.z (h1.size) [6] (.p 0 (.p 1 (.p 2 (.q 3 (.p 4 (.q 5 (.w 6 .nil))))))) mixed (by kernel_rfl) ?_
 simp -implicitDefEqProofs (maxSteps:=2000000) only [go_sem,↓reduceIte,R1.known,hnb1,r1,hs1]
 have km:=vMupd_int (K:=fun _ _=>True) (x:=.agg x.C.toArray) (n:=s) tmiCm N1.pt.known.2 (P:=Tryz.prog)
 rw [vMupd_int tmiCm N1.pt.known.2]
 have k2:Kp (fun t=>t=.known i) o h1 o (h1.setIfInBounds a.known (mapO (ins (mapV cmA n.known) s (.agg x.C.toArray)))):=(Kp.refl k1.dom (fun t=>t=.known i)).set N1.pt.known.1 rfl _
 have m2:MapAt o (.known i) (h1.setIfInBounds a.known (mapO (ins (mapV cmA n.known) s (.agg x.C.toArray)))) a.known (mapV cmA (ins n.known s x)):=
  ⟨N1.pt.known.1,by rw [get_set N1.pt.known.2,mapV_ins]; rfl⟩
 have N2:NodeAt o (h1.setIfInBounds a.known (mapO (ins (mapV cmA n.known) s (.agg x.C.toArray)))) wb i nb a (learnK n s x):=⟨N1.blk.keep k2 (by intro e; cases e),N1.pt.keepKnown k2 m2⟩
 have W2:=W1.keep k2 (by rintro t rfl; simp [Tg.of])
 have K2:Kp (learnT' i) o h o (h1.setIfInBounds a.known (mapO (ins (mapV cmA n.known) s (.agg x.C.toArray)))):=(kp_any k1).trans (k2.mono fun t q=>.inr (.inr (.inr (.inl q))))
 generalize (h1.setIfInBounds a.known (mapO (ins (mapV cmA n.known) s (.agg x.C.toArray))))=h2 at *
 clear km
 unfold learn
 obtain ⟨L,hL⟩:∃ L,L=(learnK n s x).known.length:=⟨_,rfl⟩
 have hLb:L≤100000000001:=by
  rw [hL]; unfold learnK; simp only [ins_length]; split <;> omega
 obtain ⟨n0,hn0⟩:∃ n0,n0=learnK n s x:=⟨_,rfl⟩
 rw [← hn0] at N2 hL ⊢
 rw [← hL]
 have hl0:n0.log.length≤100000000000:=by rw [hn0]; exact hl
 have hq0:n0.queue.length≤1000000000000:=by rw [hn0]; exact hq
 have hw0:n0.waiting.length≤1000000000000:=by rw [hn0]; exact hw
 clear N1 W1 R1 hnb1 hs1 r1 k2 m2 N W hk hl hq hw hn0 k1 x1
 simp -implicitDefEqProofs (maxSteps:=2000000) only [go_sem,↓reduceIte]
 refine VS.loop' (fun F g=>F 0=.pointer (some ⟨wb,0,none⟩)∧F 1=.pointer (some ⟨nb,0,none⟩)∧∃ o' a' WA' m ts f j,Kp (learnT' i) o h o' g∧NodeAt o' g wb i nb a' m∧WorldAt o' g wb nbs WA' fl bad (told++ts)∧f+j=L+1∧m.known=n0.known∧m.log.length=n0.log.length+j ∧
   m.queue.length≤1000000000000∧m.waiting.length≤1000000000000∧ts.length≤j∧(∀ j',j'<j→(lkp n0.known ((n0.log.length+j':Nat):Int)).isSome=true)∧(learnGo (L+1) n0).1=(learnGo f m).1∧(learnGo (L+1) n0).2=ts++(learnGo f m).2)
  (fun F g=>n0.log.length+L+2 - slenO (hc g ⟨nb,11,none⟩)) rfl ⟨rfl,rfl,o,a,WA0,n0,[],L+1,0,K2,N2,by rw [List.append_nil]; exact W2,rfl,rfl,rfl,hq0,hw0,Nat.le_refl _,fun j' h=>by omega,rfl,rfl⟩ ?_
 rintro F g ⟨f0,f1,o',a',WA',m,ts,f,j,K,M,V,hf,hmk,hml,hmq,hmw,hts,hjs,g1,g2⟩
 have R:=node_rd M.blk.2 M.pt.store.len
 have hnbg:=lt_of_get M.blk.2
 obtain ⟨lp,lc,hlog,hlc⟩:=OwnT.isSlice M.pt.log
 have mu:slenO (hc g ⟨nb,11,none⟩)=m.log.length:=by rw [R.log,hlog]; rfl
 rw [mu]
 have R11:=R.log
 rw [hlog] at R11
 have lk:=fun (K:Value→Hp→Prop)=>vLook_int (K:=K) (n:=(m.log.length:Int)) (c:=true) tmiCm tzvCm M.pt.known.2
 have lk2:=fun (K:Value→Hp→Prop) (x:Obj)=>vLook_int (h:=g.push x) (K:=K) (n:=(m.log.length:Int)) (c:=true) tmiCm tzvCm ((get_push_ne (lt_of_get M.pt.known.2)).trans M.pt.known.2)
 rw [mapV_lkp] at lk
 simp only [mapV_lkp] at lk2
 simp -implicitDefEqProofs (maxSteps:=2000000) only [go_sem,↓reduceIte,f0,f1]
 cases hx:lkp m.known (m.log.length:Int) with
 | none=>
  rw [hx] at lk
  simp only [hx,Option.map_none,Option.getD_none,Option.isSome_none,↓reduceIte] at lk lk2
  have e:f≠0→learnGo f m=(m,[]):=fun hne=>by
   obtain ⟨f',rfl⟩:∃ f',f=f'+1:=⟨f - 1,by omega⟩
   unfold learnGo; rw [hx]
  have e':learnGo f m=(m,[]):=by
   by_cases q:f=0
   ·subst q; rfl
   ·exact e q
  rw [e'] at g1 g2
  refine VS.mono (N:=fun F' g'=>Bel g.size g g'∧F' 9=.bool false) ?_ ?_ (fun _ _ _ h=>h) (fun _ _ h=>h)
  ·refine VS.z (g.size) [9,14] (.p 0 (.p 1 (.p 2 (.q 3 (.p 4 (.p 5 (.p 6 (.q 7 (.p 8 (.or 9 (.p 10 (.p 11 (.p 12 (.s 13 (.w 14 (.p 15 .nil)))))) (.s 13 (.w 9 (.p 10 (.p 11 (.p 12 (.w 14 (.p 15 .nil))))))))))))))))) mixed (by kernel_rfl) ?_
   simp -implicitDefEqProofs (maxSteps:=2000000) only [go_sem,↓reduceIte,f0,f1,R.known,R11,hnbg,lk,lk2]
   repeat' (first | exact Bel.refl _ _ | exact Bel.push (Nat.le_refl _) _ | refine And.intro ?_ ?_)
  ·rintro F' g' ⟨b,f9⟩
   simp -implicitDefEqProofs (maxSteps:=2000000) only [go_sem,↓reduceIte,f9]
   rw [g1,g2,List.append_nil]
   exact ⟨o',a',WA',K.bel b,M.still (kp_still K.dom b),V.still (kp_still K.dom b)⟩
 | some y=>
  rw [hx] at lk
  simp only [hx,Option.map_some,Option.getD_some,Option.isSome_some,↓reduceIte] at lk lk2
  refine VS.mono (N:=fun F' g'=>Bel g.size g g'∧F' 0=.pointer (some ⟨wb,0,none⟩)∧F' 1=.pointer (some ⟨nb,0,none⟩)∧F' 9=.bool true∧F' 8=.pointer (some ⟨g.size,0,none⟩)∧g'[g.size]? = some (.cells y.C.toArray 77)) ?_ ?_ (fun _ _ _ h=>h) (fun _ _ h=>h)
  ·refine VS.z (g.size) [9,14] (.p 0 (.p 1 (.p 2 (.q 3 (.p 4 (.p 5 (.p 6 (.q 7 (.p 8 (.or 9 (.p 10 (.p 11 (.p 12 (.s 13 (.w 14 (.p 15 .nil)))))) (.s 13 (.w 9 (.p 10 (.p 11 (.p 12 (.w 14 (.p 15 .nil))))))))))))))))) mixed (by kernel_rfl) ?_
   simp -implicitDefEqProofs (maxSteps:=2000000) only [go_sem,↓reduceIte,f0,f1,R.known,R11,hnbg,lk,lk2,cmA]
   have gp:∀ x:Obj,(g.push x)[g.size]? = some x:=fun x=>get_push_last
   repeat' (first | exact Bel.refl _ _ | exact Bel.push (Nat.le_refl _) _ | exact gp _ | refine And.intro ?_ ?_)
  ·rintro F2 g2 ⟨b2,f20,f21,f29,f28,x2⟩
   simp -implicitDefEqProofs (maxSteps:=2000000) only [go_sem,↓reduceIte,f29]
   have kb:=kp_still K.dom b2
   have M2:=M.still kb
   have V2:=V.still kb
   have bx2:BoxAt o' g2 g.size (.cells y.C.toArray 77):=⟨K.dom _ (Nat.le_refl _),x2⟩
   have K2:=K.bel b2
   have hgs:=hnbg
   clear R R11 lk lk2 hnbg mu
   have R2:=node_rd M2.blk.2 M2.pt.store.len
   have hnb2:=lt_of_get M2.blk.2
   have hs2:=lt_of_get x2
   have r2:rd g2 ⟨g.size,0,none⟩ 5=some y.C:=rd_last x2 rfl
   refine VS.z (g2.size) [7,10] (.p 0 (.p 1 (.p 2 (.p 3 (.q 4 (.q 5 (.s 6 (.w 7 (.p 8 (.p 9 (.w 10 .nil))))))))))) mixed (by kernel_rfl) ?_
   simp -implicitDefEqProofs (maxSteps:=2000000) only [go_sem,↓reduceIte,f20,f21,f28,R2.log,hnb2,hs2,r2]
   have k3:=kp_push K2.dom (.cells y.C.toArray 77)
   refine append_cm (l:=m.log) (M2.still k3).pt.log k3.dom get_push_last (by omega) ?_
   intro p c o3 g3 w3 kk3
   have k3':Kp (fun t=>t=.log i) o' g2 o3 g3:=(kp_any k3).trans kk3
   have b3:=M2.blk.keep k3' (by intro e; cases e)
   have w:=(node_wr b3.2 M2.pt.store.len).log (.slice p (m.log.length+1) c) rfl
   simp -implicitDefEqProofs (maxSteps:=2000000) only [go_sem,↓reduceIte,w]
   have M4:=(M2.pt.keepLog k3' w3).put k3'.dom b3
   have kn:Kp (fun t=>t=.node i) o3 g3 o3 (g3.setIfInBounds nb (nodeO { m with log:=m.log++[y] } { a' with log:=.slice p (m.log.length+1) c })):=(Kp.refl k3'.dom (fun t=>t=.node i)).set b3.1 rfl _
   have V4:=(V2.keep k3' (by rintro t rfl; simp [Tg.of])).keep kn (by rintro t rfl; simp [Tg.of])
   have x4:=(bx2.keep k3').keep kn
   have K4:Kp (learnT' i) o h o3 (g3.setIfInBounds nb (nodeO { m with log:=m.log++[y] } { a' with log:=.slice p (m.log.length+1) c })):=
    (K2.trans (k3'.mono fun t q=>.inr (.inr (.inr (.inr (.inl q)))))).trans (kn.mono fun t q=>.inr (.inr (.inl q)))
   obtain ⟨g4,hg4⟩:∃ g4,g4=g3.setIfInBounds nb (nodeO m { a' with log:=.slice p (m.log.length+1) c }):=⟨_,rfl⟩
   rw [show nodeO { m with log:=m.log++[y] } { a' with log:=.slice p (m.log.length+1) c } = nodeO m { a' with log:=.slice p (m.log.length+1) c } from rfl,← hg4] at M4 V4 x4 K4
   rw [← hg4]
   clear hg4 kn
   have R4:=node_rd M4.blk.2 M4.pt.store.len
   have hnb4:=lt_of_get M4.blk.2
   have hs4:=lt_of_get x4.2
   have r4:rd g4 ⟨g.size,0,none⟩ 5=some y.C:=rd_last x4.2 rfl
   have call:=fun G=>do_call T G m.store M4.pt.store y
   have R4s:rd g4 ⟨nb,12,none⟩ 40=some m.store:=R4.store
   have hD:=(M4.pt.store.do y)
   have hD0:doSt ({ m with log:=m.log++[y] }:Nd).store y=doSt m.store y:=rfl
   rw [hD0] at hD
   obtain ⟨D,hDe⟩:∃ D,D=doSt m.store y:=⟨_,rfl⟩
   obtain ⟨E,hE⟩:∃ E,E=chnE m.store y:=⟨_,rfl⟩
   obtain ⟨c1,hc1⟩:∃ c1,c1=doCode m.store y:=⟨_,rfl⟩
   obtain ⟨c2,hc2⟩:∃ c2,c2=doVal m.store y:=⟨_,rfl⟩
   rw [← hDe] at hD
   rw [← hDe,← hE,← hc1,← hc2] at call
   have hD1:=hD.len
   have hD2:=hD.one
   unfold cmA at call
   have hl2:=lput_full (zs:=storeZ) (vs:=D) (by rw [hD1]; rfl)
   unfold storeZ at hl2
   simp only [rep,List.cons_append,List.nil_append] at hl2
   have wA:∀ (G:Hp) (k:Nat),G[k]? = some (.cells storeZ.toArray 72)→wr G ⟨k,0,none⟩ D=some (G.setIfInBounds k (.cells D.toArray 72)):=fun G k hx=>by
    rw [wr_get hx 0 D,lput_full (by rw [hD1]; rfl),if_pos ⟨by rw [hD1]; simp [storeZ,rep],hD2⟩]
   have wB:∀ (G:Hp) (k:Nat),G[k]? = some (.cells [.int .i64 0,.int .i64 0].toArray 68)→wr G ⟨k,0,none⟩ [.int .i64 c1,.int .i64 c2]=some (G.setIfInBounds k (.cells [.int .i64 c1,.int .i64 c2].toArray 68)):=fun G k hx=>by
    rw [wr_get hx 0 _]; rfl
   have gl:∀ (G:Hp) (X Y:Obj),((G.push X).push Y)[G.size]? = some X:=fun G X Y=>by rw [get_push_ne (by simp),get_push_last]
   have gs:∀ (G:Hp) (k:Nat) (X Y:Obj),((G.setIfInBounds k X).push Y)[G.size]? = some Y:=fun G k X Y=>by
    have:=get_push_last (h:=G.setIfInBounds k X) (o:=Y); rwa [Array.size_setIfInBounds] at this
   have gl':=gs
   have gr:∀ (G:Hp) (X Y:Obj),((G.push X).push Y)[G.size+1]? = some Y:=fun G X Y=>by
    have:=get_push_last (h:=G.push X) (o:=Y); rwa [Array.size_push] at this
   refine VS.mono (N:=fun F' g'=>Bel g4.size g4 g'∧F' 0=.pointer (some ⟨wb,0,none⟩)∧F' 1=.pointer (some ⟨nb,0,none⟩)∧F' 8=.pointer (some ⟨g.size,0,none⟩)∧∃ A B,F' 10=.pointer (some ⟨A,0,none⟩)∧F' 11=.pointer (some ⟨B,0,none⟩)∧g4.size≤A∧g4.size≤B∧g'[A]? = some (.cells D.toArray 72)∧g'[B]? = some (.cells [.int .i64 c1,.int .i64 c2].toArray 68)) ?_ ?_ (fun _ _ _ h=>h) (fun _ _ h=>h)
   ·refine VS.z (g4.size) [5,12,13] (.p 0 (.p 1 (.p 2 (.q 3 (.q 4 (.or 5 (.p 6 (.p 7 (.p 8 (.p 9 (.or 10 (.s 11 (.w 12 (.w 13 (.p 14 .nil)))) (.s 11 (.s 10 (.w 12 (.w 13 (.p 14 .nil)))))))))) (.or 10 (.or 5 (.p 6 (.p 7 (.p 8 (.p 9 (.s 11 (.w 12 (.w 13 (.p 14 .nil)))))))) (.s 11 (.w 5 (.p 6 (.p 7 (.p 8 (.p 9 (.w 12 (.w 13 (.p 14 .nil)))))))))) (.s 11 (.or 5 (.p 6 (.p 7 (.p 8 (.p 9 (.s 10 (.w 12 (.w 13 (.p 14 .nil)))))))) (.s 10 (.w 5 (.p 6 (.p 7 (.p 8 (.p 9 (.w 12 (.w 13 (.p 14 .nil)))))))))))))))))) mixed (by kernel_rfl) ?_
    simp -implicitDefEqProofs (maxSteps:=2000000) only [go_sem,↓reduceIte,f20,f21,f28,R4s,hnb4,hs4,r4]
    repeat' (first | with_reducible exact Bel.refl _ _ | with_reducible exact Bel.push (by omega) _ | with_reducible refine And.intro ?_ ?_)
    all_goals first
     | (refine (call g4).use ?_
        rintro _ g5 ⟨rfl,b5⟩
        have s5:=b5.size
        simp -implicitDefEqProofs (maxSteps:=2000000) only [go_sem,↓reduceIte,b5,hD1,hD2,hl2]
        refine ⟨⟨f20,f21,f28,_,_,rfl,rfl,s5,by omega,gl _ _ _,gr _ _ _⟩,⟨f20,f21,f28,_,_,rfl,rfl,by omega,s5,gr _ _ _,gl _ _ _⟩⟩)
     | (refine (call (g4.push (.cells _ 72))).use ?_
        rintro _ g5 ⟨rfl,b5⟩
        have s5:=b5.size
        rw [Array.size_push] at s5
        have B5:Bel g4.size g4 g5:=(Bel.push (Nat.le_refl _) _).trans (b5.mono (by simp))
        have xA:=b5.get (k:=g4.size) (by simp) get_push_last
        have wA5:=wA _ _ xA
        have zA:=lt_of_get xA
        have gA:=get_set (o:=.cells D.toArray 72) xA
        simp -implicitDefEqProofs (maxSteps:=2000000) only [go_sem,↓reduceIte,B5,hD1,hD2,wA5,zA]
        exact ⟨f20,f21,f28,_,_,rfl,rfl,Nat.le_refl _,by omega,by rw [get_push_ne (by simpa using zA)]; exact gA,gs _ _ _ _⟩)
     | (refine (call (g4.push (.cells _ 68))).use ?_
        rintro _ g5 ⟨rfl,b5⟩
        have s5:=b5.size
        rw [Array.size_push] at s5
        have B5:Bel g4.size g4 g5:=(Bel.push (Nat.le_refl _) _).trans (b5.mono (by simp))
        have xB:=b5.get (k:=g4.size) (by simp) get_push_last
        have wB5:=wB _ _ xB
        have zB:=lt_of_get xB
        have gB:=get_set (o:=.cells [.int .i64 c1,.int .i64 c2].toArray 68) xB
        simp -implicitDefEqProofs (maxSteps:=2000000) only [go_sem,↓reduceIte,B5,hD1,hD2,wB5,hl2,zB]
        exact ⟨f20,f21,f28,_,_,rfl,rfl,by omega,Nat.le_refl _,gl' _ _ _ _,by rw [get_push_ne (by simpa using zB)]; exact gB⟩)
     | (refine (call ((g4.push (.cells _ 72)).push (.cells _ 68))).use ?_
        rintro _ g5 ⟨rfl,b5⟩
        have s5:=b5.size
        rw [Array.size_push,Array.size_push] at s5
        have B5:Bel g4.size g4 g5:=((Bel.push (Nat.le_refl _) _).addP (by simp) _).trans (b5.mono (by simp; omega))
        have xA:=b5.get (k:=g4.size) (by simp; omega) (gl _ _ _)
        have xB:=b5.get (k:=g4.size+1) (by simp) (gr _ _ _)
        have wA5:=wA _ _ xA
        have zA:=lt_of_get xA
        have xB':=(get_set_ne (o:=.cells D.toArray 72) (show g4.size≠g4.size+1 by omega)).trans xB
        have wB5:=wB _ _ xB'
        have zB:=lt_of_get xB'
        simp -implicitDefEqProofs (maxSteps:=2000000) only [go_sem,↓reduceIte,B5,hD1,hD2,wA5,zA,wB5,zB]
        exact ⟨f20,f21,f28,_,_,rfl,rfl,by omega,by omega,(get_set_ne (by omega)).trans (get_set xA),get_set xB'⟩)
     | (refine (call ((g4.push (.cells _ 68)).push (.cells _ 72))).use ?_
        rintro _ g5 ⟨rfl,b5⟩
        have s5:=b5.size
        rw [Array.size_push,Array.size_push] at s5
        have B5:Bel g4.size g4 g5:=((Bel.push (Nat.le_refl _) _).addP (by simp) _).trans (b5.mono (by simp; omega))
        have xB:=b5.get (k:=g4.size) (by simp; omega) (gl _ _ _)
        have xA:=b5.get (k:=g4.size+1) (by simp) (gr _ _ _)
        have wA5:=wA _ _ xA
        have zA:=lt_of_get xA
        have xB':=(get_set_ne (o:=.cells D.toArray 72) (show g4.size+1≠g4.size by omega)).trans xB
        have wB5:=wB _ _ xB'
        have zB:=lt_of_get xB'
        simp -implicitDefEqProofs (maxSteps:=2000000) only [go_sem,↓reduceIte,B5,hD1,hD2,wA5,zA,wB5,zB]
        exact ⟨f20,f21,f28,_,_,rfl,rfl,by omega,by omega,(get_set_ne (by omega)).trans (get_set xA),get_set xB'⟩)
   ·rintro F5 g5 ⟨b5,f50,f51,f58,A,B,f5A,f5B,hA,hB,yA,yB⟩
    have kb5:=kp_still K4.dom b5
    have M5:=M4.still kb5
    have V5:=V4.still kb5
    have x5:=x4.keep kb5
    have K5:=K4.bel b5
    have z5:=lt_of_get M5.blk.2
    have rA:rd g5 ⟨A,0,none⟩ 40=some D:=rd_last yA hD1
    obtain ⟨g6,w6,M6,k6⟩:=NodePt.write (n:={ m with log:=m.log++[y],store:=D }) { M5.pt with store:=hD } K5.dom M5.blk ((node_wr M5.blk.2 M5.pt.store.len).store D hD1 hD2)
    have V6:=V5.keep k6 (by rintro t rfl; simp [Tg.of])
    have x6:=x5.keep k6
    have K6:Kp (learnT' i) o h o3 g6:=K5.trans (k6.mono fun t q=>.inr (.inr (.inl q)))
    have xB6:=(show BoxAt o3 g5 B _ from ⟨K4.dom _ (by omega),yB⟩).keep k6
    have R6:=node_rd M6.blk.2 hD1
    have z6:=lt_of_get M6.blk.2
    clear R4 R4s hnb4 hs4 r4 R2 hnb2 hs2 r2
    simp -implicitDefEqProofs (maxSteps:=2000000) only [go_sem,↓reduceIte,f50,f51,f58,f5A,f5B,rA,w6,hD1,R6.queue,z5]
    refine (deleteFn_ok T g6 o3 (.queue i) _ m.queue g.size y M6.pt.queue K6.dom x6 (by omega)).use ?_
    rintro v7 g7 ⟨q7,k7⟩
    obtain ⟨p7,c7,rfl,_⟩:=OwnT.isSlice q7
    have b7:=M6.blk.keep k7 (by intro e; cases e)
    obtain ⟨g8,w8,M8,k8⟩:=(M6.pt.keepQueue k7 q7).write k7.dom b7 ((node_wr b7.2 hD1).queue (.slice p7 _ c7) rfl)
    have z7:=lt_of_get b7.2
    have V8:=(V6.keep k7 (by rintro t rfl; simp [Tg.of])).keep k8 (by rintro t rfl; simp [Tg.of])
    have x8:=(x6.keep k7).keep k8
    have xB8:=(xB6.keep k7).keep k8
    have K8:Kp (learnT' i) o h o3 g8:=(K6.trans (k7.mono fun t q=>.inr (.inr (.inr (.inr (.inr (.inl q))))))).trans (k8.mono fun t q=>.inr (.inr (.inl q)))
    have R8:=node_rd M8.blk.2 hD1
    have z8:=lt_of_get M8.blk.2
    simp -implicitDefEqProofs (maxSteps:=2000000) only [go_sem,↓reduceIte,f50,f51,f58,w8,z7,R8.waiting]
    refine (indexFn_ok T g8 _ m.waiting g.size y M8.pt.waiting.ts x8.2 (by omega)).use ?_
    rintro _ g9 ⟨rfl,b9⟩
    have kb9:=kp_still K8.dom b9
    have M9:=M8.still kb9
    have V9:=V8.still kb9
    have x9:=x8.keep kb9
    have xB9:=xB8.keep kb9
    have K9:=K8.bel b9
    have hstep:∃ f',f=f'+1:=⟨f - 1,by
     have:f≠0:=fun q=>by
      subst q
      have hj:j=L+1:=by omega
      have:=keys_run n0.known n0.log.length (L+2) fun j' hj'=>by
       by_cases q:j'<j
       ·exact hjs j' q
       ·have:j'=j:=by omega
        subst this
        rw [← hml,← hmk,hx]; rfl
      rw [← hL] at this
      omega
     omega⟩
    obtain ⟨f',rfl⟩:=hstep
    have lg:learnGo (f'+1) m=((learnGo f' (learnN m y)).1,learnT m y++(learnGo f' (learnN m y)).2):=by
     rw [learnGo,hx]
    rw [lg] at g1 g2
    have hjs':∀ j',j'<j+1→(lkp n0.known ((n0.log.length+j':Nat):Int)).isSome=true:=fun j' hj'=>by
     by_cases q:j'<j
     ·exact hjs j' q
     ·have:j'=j:=by omega
      subst this
      rw [← hml,← hmk,hx]; rfl
    have hfl:(m.queue.filter fun z=>decide (z≠y)).length≤m.queue.length:=List.length_filter_le _ _
    have mono:∀ (G:Hp) (nn:Nd) (aa:NA) (oo:Ow),NodeAt oo G wb i nb aa nn→nn.log.length=m.log.length+1→n0.log.length+L+2 - slenO (hc G ⟨nb,11,none⟩)<n0.log.length+L+2 - m.log.length:=fun G nn aa oo H hh=>by
     have RR:=node_rd H.blk.2 H.pt.store.len
     obtain ⟨lp,lc,hlog,hlc⟩:=OwnT.isSlice H.pt.log
     have:slenO (hc G ⟨nb,11,none⟩)=nn.log.length:=by rw [RR.log,hlog]; rfl
     rw [this,hh]
     omega
    by_cases hy:y∈m.waiting
    case neg=>
     have e1:idxI m.waiting y = -1:=by unfold idxI; rw [if_neg hy]
     have e2:learnT m y=[]:=by unfold learnT; rw [if_neg hy]
     have e3:m.waiting.erase y=m.waiting:=List.erase_of_not_mem hy
     rw [e2] at g2
     have e4:learnN m y = { m with log:=m.log++[y],store:=D,queue:=m.queue.filter (fun z=>decide (z≠y)) }:=by unfold learnN; rw [e3,← hDe]
     rw [e4] at g1 g2
     rw [List.nil_append] at g2
     simp -implicitDefEqProofs (maxSteps:=2000000) only [go_sem,↓reduceIte,e1]
     unfold nLoop
     refine ⟨⟨f50,f51,o3,_,WA',_,ts,f',j+1,K9,M9,V9,by omega,hmk,by simp [hml]; omega,by simp only; omega,hmw,by omega,hjs',g1,g2⟩,mono _ _ _ _ M9 (by simp)⟩
    have e1:0≤idxI m.waiting y:=(idxI_mem _ _).2 hy
    have e5:idxI m.waiting y=(m.waiting.idxOf y:Nat):=by unfold idxI; rw [if_pos hy]
    obtain ⟨r,hr⟩:∃ r,r=m.waiting.idxOf y:=⟨_,rfl⟩
    have hrl:r<m.waiting.length:=by rw [hr]; exact List.idxOf_lt_length_of_mem hy
    rw [← hr] at e5
    have e2:learnT m y=[⟨m.me,y.c,y.s,doCode m.store y,doVal m.store y⟩]:=by unfold learnT; rw [if_pos hy]
    have e3:m.waiting.erase y=m.waiting.take r++m.waiting.drop (r+1):=by
     rw [List.erase_eq_eraseIdx_of_idxOf,List.eraseIdx_eq_take_drop_succ]
     exact hr.symm
    rw [e2] at g2
    have R9:=node_rd M9.blk.2 hD1
    have z9:=lt_of_get M9.blk.2
    simp -implicitDefEqProofs (maxSteps:=2000000) only [go_sem,↓reduceIte,e1,e5,f50,f51,f58,R9.waiting,z9]
    refine (deleteCm_ok T g9 o3 (.waiting i) _ m.waiting.length r _ M9.pt.waiting K9.dom (cms_one _) hrl (by omega)).use ?_
    rintro v10 g10 ⟨q10,k10⟩
    have wl:(m.waiting.erase y).length=m.waiting.length - 1:=by rw [e3,List.length_append,List.length_take,List.length_drop]; omega
    have Q10:CmsAt o3 (.waiting i) g10 v10 (m.waiting.erase y):=by
     unfold CmsAt
     rw [wl,e3,encs_append,← encs_take C_len _ _ (by omega),← encs_drop C_len _ _ (by omega)]
     exact q10
    obtain ⟨p10,c10,rfl,_⟩:=OwnT.isSlice Q10
    have b10:=M9.blk.keep k10 (by intro e; cases e)
    obtain ⟨g11,w11,M11,k11⟩:=(M9.pt.keepWaiting k10 Q10).write k10.dom b10 ((node_wr b10.2 hD1).waiting (.slice p10 _ c10) rfl)
    have z10:=lt_of_get b10.2
    have V11:=(V9.keep k10 (by rintro t rfl; simp [Tg.of])).keep k11 (by rintro t rfl; simp [Tg.of])
    have x11:=(x9.keep k10).keep k11
    have xB11:=(xB9.keep k10).keep k11
    have K11:Kp (learnT' i) o h o3 g11:=(K9.trans (k10.mono fun t q=>.inr (.inr (.inr (.inr (.inr (.inr q))))))).trans (k11.mono fun t q=>.inr (.inr (.inl q)))
    have R11:=node_rd M11.blk.2 hD1
    have z11:=lt_of_get M11.blk.2
    have U11:=world_rd V11.blk.2
    have zw11:=lt_of_get V11.blk.2
    have rx1:hc g11 ⟨g.size,1,none⟩=some (.int .i64 y.c):=hc_last x11.2
    have rx2:hc g11 ⟨g.size,2,none⟩=some (.int .i64 y.s):=hc_last x11.2
    have rB:rd g11 ⟨B,0,none⟩ 2=some [.int .i64 c1,.int .i64 c2]:=rd_last xB11.2 rfl
    have zx11:=lt_of_get x11.2
    have zB11:=lt_of_get xB11.2
    simp -implicitDefEqProofs (maxSteps:=2000000) only [go_sem,↓reduceIte,w11,z10]
    refine VS.z (g11.size) [17,21] (.p 0 (.p 1 (.p 2 (.p 3 (.p 4 (.q 5 (.p 6 (.p 7 (.p 8 (.q 9 (.p 10 (.q 11 (.p 12 (.q 13 (.q 14 (.p 15 (.s 16 (.w 17 (.p 18 (.p 19 (.p 20 (.w 21 .nil)))))))))))))))))))))) mixed (by kernel_rfl) ?_
    simp -implicitDefEqProofs (maxSteps:=2000000) only [go_sem,↓reduceIte,f50,f51,f58,f5B,U11.told,R11.me,rx1,rx2,rB,z11,zw11,zx11,zB11]
    have k12:=kp_push K11.dom (.cells (tldC ⟨m.me,y.c,y.s,c1,c2⟩).toArray 116)
    have V12:=V11.still k12
    refine append_told (l:=told++ts) (x:=⟨m.me,y.c,y.s,c1,c2⟩) V12.told k12.dom get_push_last (by rw [List.length_append]; omega) ?_
    intro p13 c13 o13 g13 q13 k13
    have b13:=V12.blk.keep k13 (by intro e; cases e)
    obtain ⟨g14,w14,V14,k14⟩:=V12.putTold k13 q13 ((world_rd b13.2).wtold (.slice p13 _ c13) rfl)
    have z13:=lt_of_get b13.2
    simp -implicitDefEqProofs (maxSteps:=2000000) only [go_sem,↓reduceIte,w14,z13]
    have M14:=((M11.still k12).keep k13 (by rintro t rfl; simp [Tg.of])).keep k14 (by rintro t rfl; simp [Tg.of])
    have K14:Kp (learnT' i) o h o13 g14:=(((K11.trans (kp_any k12)).trans (k13.mono fun t q=>.inr (.inl q))).trans (k14.mono fun t q=>.inl q))
    have e4:learnN m y = { m with log:=m.log++[y],store:=D,queue:=m.queue.filter (fun z=>decide (z≠y)),waiting:=m.waiting.erase y }:=by unfold learnN; rw [← hDe]
    rw [e4] at g1 g2
    rw [← hc1,← hc2] at g2
    obtain ⟨WA15,V15⟩:∃ A,WorldAt o13 g14 wb nbs A fl bad (told++(ts++[⟨m.me,y.c,y.s,c1,c2⟩])):=⟨_,by rw [← List.append_assoc]; exact V14⟩
    rw [← List.append_assoc] at g2
    unfold nLoop
    refine ⟨⟨f50,f51,o13,_,_,_,ts++[⟨m.me,y.c,y.s,c1,c2⟩],f',j+1,K14,M14,V15,by omega,hmk,by simp [hml]; omega,by simp only; omega,by simp only; omega,by simp; omega,hjs',g1,g2⟩,mono _ _ _ _ M14 (by simp)⟩
def Sent (o:Ow) (h:Hp) (wb:Nat) (nbs:Nat→Nat) (fl:List Ltr) (bad:Nat→Int) (told:List Tld) (h':Hp):Prop:=
 ∃ o' WA',Kp sentT o h o' h'∧WorldAt o' h' wb nbs WA' fl bad told
theorem ansP_ok (T:World) (h:Hp) (o:Ow) (wb nb:Nat) (nbs:Nat→Nat) (me:Nat) (WA0:WA) (fl:List Ltr) (bad:Nat→Int) (told:List Tld) (b3 b4 b5 b7:Nat) (l:Ltr) (w5 w:Value) (vs:List Vt) (d:Dom o h)
  (W:WorldAt o h wb nbs WA0 fl bad told) (hme:hc h ⟨nb,0,none⟩=some (.int .i64 me)) (hnb:nb<h.size) (hroom:fl.length≤1000000000000)
  (x3:BoxAt o h b3 (.cells [ptrV wb].toArray 49)) (x4:BoxAt o h b4 (.cells [ptrV nb].toArray 56)) (x5:BoxAt o h b5 (.cells (ltC l w5).toArray 98)) (x7:BoxAt o h b7 (.cells [w].toArray 61)) (iv:ImV o h w vs) :
  CallsH Tryz.prog T 88 #[ptrV b3,ptrV b4,ptrV b5,ptrV b7] h fun v' h'=>Sent o h wb nbs (fl++[⟨1,me,l.frm,l.b,vt0,vs⟩]) bad told h':=by
 obtain ⟨pw,cw,rfl⟩:=iv.isSlice
 refine CallsH.of_code' (args:=[_,_,_,_]) Tryz.func88 rfl rfl rfl rfl ?_
 unfold ptrV
 have r3:hc h ⟨b3,0,none⟩=some (ptrV wb):=hc_last x3.2
 have r4:hc h ⟨b4,0,none⟩=some (ptrV nb):=hc_last x4.2
 have r5:hc h ⟨b5,1,none⟩=some (.int .i64 l.frm):=hc_last x5.2
 have r6:rd h ⟨b5,3,none⟩ 2=some [.int .i64 l.b.r,.int .i64 l.b.n]:=by rw [rd_part x5.2 (by simp [ltC])]; rfl
 have r7:hc h ⟨b7,0,none⟩=some (.slice pw vs.length cw):=hc_last x7.2
 simp -implicitDefEqProofs (maxSteps:=2000000) only [go_sem,↓reduceIte,r3,r4,r5,r6,r7]
 refine (send_ok T h o wb nb nbs me WA0 fl bad told l.frm ⟨1,0,0,l.b,vt0,vs⟩ _ d W hme hnb iv hroom).use ?_
 rintro v' h' ⟨o',WA',k,_,W'⟩
 simp -implicitDefEqProofs (maxSteps:=2000000) only [go_sem,↓reduceIte]
 exact ⟨o',WA',k,W'⟩
theorem ansV_ok (T:World) (h:Hp) (o:Ow) (wb nb:Nat) (nbs:Nat→Nat) (me:Nat) (WA0:WA) (fl:List Ltr) (bad:Nat→Int) (told:List Tld) (b3 b4 b5:Nat) (l:Ltr) (w5:Value) (d:Dom o h)
  (W:WorldAt o h wb nbs WA0 fl bad told) (hme:hc h ⟨nb,0,none⟩=some (.int .i64 me)) (hnb:nb<h.size) (hroom:fl.length≤1000000000000)
  (x3:BoxAt o h b3 (.cells [ptrV wb].toArray 49)) (x4:BoxAt o h b4 (.cells [ptrV nb].toArray 56)) (x5:BoxAt o h b5 (.cells (ltC l w5).toArray 98)) :
  CallsH Tryz.prog T 93 #[ptrV b3,ptrV b4,ptrV b5] h fun v' h'=>Sent o h wb nbs (fl++[⟨3,me,l.frm,bal0,l.v,[]⟩]) bad told h':=by
 refine CallsH.of_code' (args:=[_,_,_]) Tryz.func93 rfl rfl rfl rfl ?_
 unfold ptrV
 have r3:hc h ⟨b3,0,none⟩=some (ptrV wb):=hc_last x3.2
 have r4:hc h ⟨b4,0,none⟩=some (ptrV nb):=hc_last x4.2
 have r5:hc h ⟨b5,1,none⟩=some (.int .i64 l.frm):=hc_last x5.2
 have r6:rd h ⟨b5,5,none⟩ 8=some (voteC l.v):=by rw [rd_part x5.2 (by simp [ltC])]; rfl
 unfold voteC at r6
 simp -implicitDefEqProofs (maxSteps:=2000000) only [go_sem,↓reduceIte,r3,r4,r5,r6]
 refine (send_ok T h o wb nb nbs me WA0 fl bad told l.frm ⟨3,0,0,bal0,l.v,[]⟩ (.slice none 0 0) d W hme hnb (Im.nil _ _ _ _) hroom).use ?_
 rintro v' h' ⟨o',WA',k,_,W'⟩
 simp -implicitDefEqProofs (maxSteps:=2000000) only [go_sem,↓reduceIte]
 exact ⟨o',WA',k,W'⟩
def finT (i:Nat) (t:Tg):Prop:=t=.world∨t=.flying∨t=.node i∨t=.prom i∨t=.stale i
theorem finP_ok (T:World) (h:Hp) (o:Ow) (wb i nb:Nat) (nbs:Nat→Nat) (WA0:WA) (fl:List Ltr) (bad:Nat→Int) (told:List Tld) (a:NA) (n:Nd) (acc:Acp) (to:Int) (b:Bal) (vs:List Vt) (b6 b4 b9:Nat) (u:Value) (d:Dom o h)
  (N:NodeAt o h wb i nb a n) (W:WorldAt o h wb nbs WA0 fl bad told) (hroom:fl.length≤1000000000000)
  (x6:AcpBox o h b6 acc) (x4:BoxAt o h b4 (.cells [ptrV nb].toArray 56)) (x9:BoxAt o h b9 (.cells [u].toArray 1)) (hu:AnsP o h wb nb u to b vs) :
  CallsH Tryz.prog T 90 #[ptrV b6,ptrV b4,ptrV b9] h fun v' h'=>∃ o' a' WA',Kp (finT i) o h o' h'∧NodeAt o' h' wb i nb a' { n with own:=acc }∧WorldAt o' h' wb nbs WA' (fl++[⟨1,n.me,to,b,vt0,vs⟩]) bad told:=by
 obtain ⟨wa,xa,ia⟩:=x6
 obtain ⟨pa,ca,rfl⟩:=ia.isSlice
 obtain ⟨b3,b4',b5,b7,l,w5,w,rfl,y3,y4,y5,rfl,rfl,y7,iv⟩:=hu
 have hnb:=lt_of_get N.blk.2
 refine CallsH.of_code' (args:=[_,_,_]) Tryz.func90 rfl rfl rfl rfl ?_
 unfold ptrV
 have r4:hc h ⟨b4,0,none⟩=some (ptrV nb):=hc_last x4.2
 have r6:rd h ⟨b6,0,none⟩ 3=some [.int .i64 acc.p.r,.int .i64 acc.p.n,.slice pa acc.l.length ca]:=rd_last xa.2 rfl
 obtain ⟨g1,w1,N1,k1⟩:=NodePt.write (a:={ a with votes:=.slice pa acc.l.length ca }) (n:={ n with own:=acc }) { N.pt with votes:=ia } d N.blk ((node_wr N.blk.2 N.pt.store.len).own acc.p.r acc.p.n (.slice pa acc.l.length ca) rfl)
 have W1:=W.keep k1 (by rintro t rfl; simp [Tg.of])
 have x91:=x9.keep k1
 have r9:hc g1 ⟨b9,0,none⟩=some (fnV 88 [b3,b4',b5,b7]):=hc_last x91.2
 unfold fnV at r9
 simp only [List.map] at r9
 unfold ptrV at r4 r9
 simp -implicitDefEqProofs (maxSteps:=2000000) only [go_sem,↓reduceIte,r4,r6,w1,hnb,r9]
 have R1:=node_rd N1.blk.2 N1.pt.store.len
 refine (ansP_ok T g1 o wb nb nbs n.me WA0 fl bad told b3 b4' b5 b7 l w5 w vs k1.dom W1 R1.me (lt_of_get N1.blk.2) hroom (y3.keep k1) (y4.keep k1) (y5.keep k1) (y7.keep k1) (iv.keep k1)).use ?_
 rintro v' h' ⟨o',WA',k,W'⟩
 simp -implicitDefEqProofs (maxSteps:=2000000) only [go_sem,↓reduceIte]
 exact ⟨o',_,WA',(k1.mono fun t q=>.inr (.inr (.inl q))).trans (k.mono fun t q=>q.elim .inl fun q=>.inr (.inl q)),N1.keep k (by rintro t (rfl | rfl) <;> simp [Tg.of]),W'⟩
theorem finV_ok (T:World) (h:Hp) (o:Ow) (wb i nb:Nat) (nbs:Nat→Nat) (WA0:WA) (fl:List Ltr) (bad:Nat→Int) (told:List Tld) (a:NA) (n:Nd) (acc:Acp) (to:Int) (x:Vt) (b6 b4 b9:Nat) (u:Value) (d:Dom o h)
  (N:NodeAt o h wb i nb a n) (W:WorldAt o h wb nbs WA0 fl bad told) (hroom:fl.length≤1000000000000)
  (x6:AcpBox o h b6 acc) (x4:BoxAt o h b4 (.cells [ptrV nb].toArray 56)) (x9:BoxAt o h b9 (.cells [u].toArray 1)) (hu:AnsV o h wb nb u to x) :
  CallsH Tryz.prog T 96 #[ptrV b6,ptrV b4,ptrV b9] h fun v' h'=>∃ o' a' WA',Kp (finT i) o h o' h'∧NodeAt o' h' wb i nb a' { n with own:=acc }∧WorldAt o' h' wb nbs WA' (fl++[⟨3,n.me,to,bal0,x,[]⟩]) bad told:=by
 obtain ⟨wa,xa,ia⟩:=x6
 obtain ⟨pa,ca,rfl⟩:=ia.isSlice
 obtain ⟨b3,b4',b5,l,w5,rfl,y3,y4,y5,rfl,rfl⟩:=hu
 have hnb:=lt_of_get N.blk.2
 refine CallsH.of_code' (args:=[_,_,_]) Tryz.func96 rfl rfl rfl rfl ?_
 unfold ptrV
 have r4:hc h ⟨b4,0,none⟩=some (ptrV nb):=hc_last x4.2
 have r6:rd h ⟨b6,0,none⟩ 3=some [.int .i64 acc.p.r,.int .i64 acc.p.n,.slice pa acc.l.length ca]:=rd_last xa.2 rfl
 obtain ⟨g1,w1,N1,k1⟩:=NodePt.write (a:={ a with votes:=.slice pa acc.l.length ca }) (n:={ n with own:=acc }) { N.pt with votes:=ia } d N.blk ((node_wr N.blk.2 N.pt.store.len).own acc.p.r acc.p.n (.slice pa acc.l.length ca) rfl)
 have W1:=W.keep k1 (by rintro t rfl; simp [Tg.of])
 have x91:=x9.keep k1
 have r9:hc g1 ⟨b9,0,none⟩=some (fnV 93 [b3,b4',b5]):=hc_last x91.2
 unfold fnV at r9
 simp only [List.map] at r9
 unfold ptrV at r4 r9
 simp -implicitDefEqProofs (maxSteps:=2000000) only [go_sem,↓reduceIte,r4,r6,w1,hnb,r9]
 have R1:=node_rd N1.blk.2 N1.pt.store.len
 refine (ansV_ok T g1 o wb nb nbs n.me WA0 fl bad told b3 b4' b5 l w5 k1.dom W1 R1.me (lt_of_get N1.blk.2) hroom (y3.keep k1) (y4.keep k1) (y5.keep k1)).use ?_
 rintro v' h' ⟨o',WA',k,W'⟩
 simp -implicitDefEqProofs (maxSteps:=2000000) only [go_sem,↓reduceIte]
 exact ⟨o',_,WA',(k1.mono fun t q=>.inr (.inr (.inl q))).trans (k.mono fun t q=>q.elim .inl fun q=>.inr (.inl q)),N1.keep k (by rintro t (rfl | rfl) <;> simp [Tg.of]),W'⟩
theorem PromAt.ins {o:Ow} {h:Hp} {k:Int} {w:Value} {vs:List Vt} (iv:ImV o h w vs):∀ {pv:List (Int × Value)} {pr:List (Int × List Vt)},PromAt o h pv pr→PromAt o h (Go.V.ins pv k w) (Go.V.ins pr k vs):=by
 intro pv pr s
 induction s with
 | nil=>exact .cons ⟨rfl,iv⟩ .nil
 | @cons a b l m hab _ ih=>
  obtain ⟨a1,a2⟩:=a
  obtain ⟨b1,b2⟩:=b
  obtain ⟨rfl,h2⟩:=hab
  show Al2 _ (if a1=k then (a1,w) :: l else (a1,a2) :: Go.V.ins l k w) (if a1=k then (a1,vs) :: m else (a1,b2) :: Go.V.ins m k vs)
  by_cases q:a1=k
  ·rw [if_pos q,if_pos q]; exact .cons ⟨rfl,iv⟩ (by assumption)
  ·rw [if_neg q,if_neg q]; exact .cons ⟨rfl,h2⟩ ih
theorem PromAt.length {o:Ow} {h:Hp} {pv:List (Int × Value)} {pr:List (Int × List Vt)} (s:PromAt o h pv pr):pv.length=pr.length:=by
 induction s with
 | nil=>rfl
 | cons _ _ ih=>simp [ih]
theorem PromAt.lkp {o:Ow} {h:Hp} {pv:List (Int × Value)} {pr:List (Int × List Vt)} (s:PromAt o h pv pr) (k:Int):(Go.V.lkp pv k=none∧Go.V.lkp pr k=none)∨∃ w vs,Go.V.lkp pv k=some w∧Go.V.lkp pr k=some vs∧ImV o h w vs:=by
 induction s with
 | nil=>exact .inl ⟨rfl,rfl⟩
 | @cons a b l m hab _ ih=>
  obtain ⟨a1,a2⟩:=a
  obtain ⟨b1,b2⟩:=b
  obtain ⟨rfl,h2⟩:=hab
  unfold Go.V.lkp
  by_cases q:a1=k
  ·rw [if_pos q,if_pos q]; exact .inr ⟨_,_,rfl,rfl,h2⟩
  ·rw [if_neg q,if_neg q]; exact ih
theorem RgnAt.putProm {o:Ow} {i:Nat} {h:Hp} {ra:RA} {r:Rgn} (s:RgnAt o i h ra r) (d:Dom o h) {k:Int} {w:Value} {vs:List Vt} (iv:ImV o h w vs) :
  Kp (fun t=>t=.prom i) o h o (h.setIfInBounds ra.pb (mapO (ins ra.pv k w)))∧RgnAt o i (h.setIfInBounds ra.pb (mapO (ins ra.pv k w))) { ra with pv:=ins ra.pv k w } { r with prom:=ins r.prom k vs }:=by
 have kk:Kp (fun t=>t=.prom i) o h o (h.setIfInBounds ra.pb (mapO (ins ra.pv k w))):=(Kp.refl d (fun t=>t=.prom i)).set s.prom.1 rfl _
 exact ⟨kk,s.blk.keep kk (by intro e; cases e),⟨s.prom.1,get_set s.prom.2⟩,PromAt.keep (PromAt.ins iv s.proms) kk,s.prop.keep kk (by intro e; cases e),s.vts.keep kk (by intro e; cases e),s.sets.keep kk (fun _ e=>by cases e),s.keys⟩
theorem NodePt.keepStale {o o':Ow} {h h':Hp} {wb i nb:Nat} {a:NA} {n:Nd} (s:NodePt o h wb i nb a n) (k:Kp (fun t=>t=.stale i) o h o' h') (hp:n.pend=none):NodePt o' h' wb i nb a n:=
 ⟨s.data.keep k,s.votes.keep k,s.reign.keep k (fun t ht=>by rcases ht with rfl | rfl | rfl | rfl | ⟨z,rfl⟩ <;> intro e <;> cases e),s.known.keep k (by intro e; cases e),s.log.keep k (by intro e; cases e),s.queue.keep k (by intro e; cases e),s.waiting.keep k (by intro e; cases e),s.inbox.keep k (by intro e; cases e),by
  have:=s.pend
  rw [hp] at this ⊢
  exact this,s.store⟩
theorem nodeO_reign {n:Nd} {a:NA} {ra ra':RA} (r:Option Rgn) (h:a.reign=some ra) (hb:ra'.rb=ra.rb):nodeO { n with reign:=r } { a with reign:=some ra' } = nodeO n a:=by
 unfold nodeO nodeC
 simp only [h,rgnV,hb]
def finU (i:Nat) (t:Tg):Prop:=t=.node i∨t=.prom i∨t=.stale i
theorem finO_ok (T:World) (h:Hp) (o:Ow) (wb i nb:Nat) (a:NA) (n:Nd) (acc:Acp) (vs:List Vt) (cur:Bool) (v:Value) (d:Dom o h)
  (N:NodeAt o h wb i nb a n) (hp:n.pend=none) (hv:OwnP o h i nb a.reign v acc vs cur) :
  ∃ b6 b4 b7 b5,v=fnV 97 [b6,b4,b7,b5]∧CallsH Tryz.prog T 97 #[ptrV b6,ptrV b4,ptrV b7,ptrV b5] h fun v' h'=>∃ o' a',Kp (finU i) o h o' h'∧NodeAt o' h' wb i nb a' { n with own:=acc,reign:=if cur=true then n.reign.map (fun r=>{ r with prom:=ins r.prom n.me vs }) else n.reign }:=by
 obtain ⟨b6,b4,b7,b5,w,rb,rfl,⟨wa,xa,ia⟩,x4,x7,iv,x5,hcur⟩:=hv
 obtain ⟨pa,ca,rfl⟩:=ia.isSlice
 obtain ⟨pw,cw,rfl⟩:=iv.isSlice
 refine ⟨b6,b4,b7,b5,rfl,?_⟩
 have hnb:=lt_of_get N.blk.2
 refine CallsH.of_code' (args:=[_,_,_,_]) Tryz.func97 rfl rfl rfl rfl ?_
 unfold ptrV
 have r4:hc h ⟨b4,0,none⟩=some (ptrV nb):=hc_last x4.2
 have r6:rd h ⟨b6,0,none⟩ 3=some [.int .i64 acc.p.r,.int .i64 acc.p.n,.slice pa acc.l.length ca]:=rd_last xa.2 rfl
 obtain ⟨g1,w1,N1,k1⟩:=NodePt.write (a:={ a with votes:=.slice pa acc.l.length ca }) (n:={ n with own:=acc }) { N.pt with votes:=ia } d N.blk ((node_wr N.blk.2 N.pt.store.len).own acc.p.r acc.p.n (.slice pa acc.l.length ca) rfl)
 unfold ptrV at r4
 simp -implicitDefEqProofs (maxSteps:=2000000) only [go_sem,↓reduceIte,r4,r6,w1,hnb]
 have y4:=x4.keep k1
 have y5:=x5.keep k1
 have y7:=x7.keep k1
 have q4:hc g1 ⟨b4,0,none⟩=some (ptrV nb):=hc_last y4.2
 have q5:hc g1 ⟨b5,0,none⟩=some (ptrV rb):=hc_last y5.2
 have q7:hc g1 ⟨b7,0,none⟩=some (.slice pw vs.length cw):=hc_last y7.2
 unfold ptrV at q4 q5
 have l4:=lt_of_get y4.2
 have l5:=lt_of_get y5.2
 have l7:=lt_of_get y7.2
 have R1:=node_rd N1.blk.2 N1.pt.store.len
 have lnb:=lt_of_get N1.blk.2
 have iv1:=iv.keep k1
 refine VS.z (g1.size) [9] (.q 0 (.p 1 (.p 2 (.q 3 (.q 4 (.p 5 (.p 6 (.q 7 (.q 8 (.w 9 .nil)))))))))) mixed (by kernel_rfl) ?_
 cases cur with
 | true=>
  obtain ⟨ra,hra,rfl⟩:=hcur
  have hR:=N1.pt.reign
  have hra1:({ a with votes:=.slice pa acc.l.length ca }:NA).reign=some ra:=hra
  rw [hra1] at hR
  cases hr:n.reign with
  | none=>rw [show ({ n with own:=acc }:Nd).reign=none from hr] at hR; exact hR.elim
  | some r=>
   rw [show ({ n with own:=acc }:Nd).reign=some r from hr] at hR
   have hR:RgnAt o i g1 ra r:=hR
   have rr:hc g1 ⟨ra.rb,2,none⟩=some (.map (some ra.pb)):=hc_last hR.blk.2
   have lrb:=lt_of_get hR.blk.2
   simp -implicitDefEqProofs (maxSteps:=2000000) only [go_sem,↓reduceIte,q4,q5,q7,l4,l5,l7,lnb,R1.me,rr,lrb]
   rw [vMupd_int tmiVs hR.prom.2]
   simp -implicitDefEqProofs (maxSteps:=2000000) only [go_sem,↓reduceIte]
   obtain ⟨k2,R2⟩:=hR.putProm k1.dom (k:=n.me) iv1
   have k2':Kp (rgnTags i) o g1 o _:=k2.mono fun t q=>.inr (.inl q)
   refine ⟨o,{ ({ a with votes:=.slice pa acc.l.length ca }:NA) with reign:=some { ra with pv:=ins ra.pv n.me (.slice pw vs.length cw) } },(k1.mono fun t q=>.inl q).trans (k2.mono fun t q=>.inr (.inl q)),?_,?_⟩
   ·have:=N1.blk.keep k2 (by intro e; cases e)
    rw [← nodeO_reign (some { r with prom:=ins r.prom n.me vs }) hra1 (ra':={ ra with pv:=ins ra.pv n.me (.slice pw vs.length cw) }) rfl] at this
    exact this
   ·exact NodePt.keepReign N1.pt k2' hra1 rfl R2
 | false=>
  obtain ⟨cs,pb,pv,y1,y2,y3⟩:=hcur
  have z1:=y1.keep k1 (by intro e; cases e)
  have z3:=y3.keep k1 (by intro e; cases e)
  have rr:hc g1 ⟨rb,2,none⟩=some (.map (some pb)):=by rw [hc_of_get z1.2]; exact y2
  have lrb:=lt_of_get z1.2
  simp -implicitDefEqProofs (maxSteps:=2000000) only [go_sem,↓reduceIte,q4,q5,q7,l4,l5,l7,lnb,R1.me,rr,lrb]
  rw [vMupd_int tmiVs z3.2]
  simp -implicitDefEqProofs (maxSteps:=2000000) only [go_sem,↓reduceIte]
  have k2:Kp (fun t=>t=.stale i) o g1 o (g1.setIfInBounds pb (mapO (ins pv n.me (.slice pw vs.length cw)))):=(Kp.refl k1.dom (fun t=>t=.stale i)).set z3.1 rfl _
  exact ⟨o,_,(k1.mono fun t q=>.inl q).trans (k2.mono fun t q=>.inr (.inr q)),N1.blk.keep k2 (by intro e; cases e),N1.pt.keepStale k2 hp⟩
end Go.Proofs.YtnhbpmoeaodmnaaGreatDoor

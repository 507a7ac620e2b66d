/- The nodes of a cluster, in plain words: what each piece of the program makes of them. Definitions alone. -/
import Derived.Test.YtpomedigibbeeaaGreatDoorOpn
import Derived.Test.YtpomedigibbeeaaGreatDoorMix
import Derived.Test.YtpomedigibbeeaaGreatDoorChw
import Derived.Test.YtpomedigibbeeaaGreatDoorPik
import Derived.Test.YtpomedigibbeeaaGreatDoorW25
namespace Go.Proofs.YtpomedigibbeeaaGreatDoor
open Go Go.V
set_option linter.unusedSimpArgs false
set_option linter.unusedVariables false
deriving instance DecidableEq for YG
deriving instance DecidableEq for Vt
deriving instance DecidableEq for Qu
abbrev Cm:=Qu
def Ks:Cm:=⟨0,0,0,0,0⟩
def Qu.C (x:Qu):List Value:=Qt x.k x.c x.s x.n x.v
def Qu.err (x:Qu):Int:=YM x.k x.c x.s x.n x.v
def Vt.cm (v:Vt):Cm:=⟨v.k,v.c,v.s,v.nm,v.v⟩
def TK (s:Int) (b:YG) (x:Cm):Vt:=⟨s,b,x.k,x.c,x.s,x.n,x.v⟩
def Jn:YG:=⟨0,0⟩
structure Y3 where
 kind:Int
 Jt:Int
 to:Int
 b:YG
 v:Vt
 vs:List Vt
structure Jj where
 b:YG
 prom:List (Int × List Vt)
 begun:Bool
 prop:List (Int × Cm)
 Xt:List (Int × List (Int × Unit))
inductive DM where
 | MD (a:Qw) (to:Int) (b:YG) (vs:List Vt)
 | Mi (a:Qw) (to:Int) (v:Vt)
 | own (a:Qw) (vs:List Vt) (cur:Bool)
structure Nd where
 me:Nat
 up:Bool
 data:List Nat
 Y9:Int
 own:Qw
 heard:YG
 Zi:Option Jj
 known:List (Int × Cm)
 log:List Cm
 store:List Value
 queue:List Cm
 waiting:List Cm
 inbox:List Y3
 ZA:Option DM
 Xk:Int
structure S9 where
 node:Int
 c:Int
 s:Int
 code:Int
 val:Int
structure Wd where
 nodes:Nat→Nd
 Zm:List Y3
 bad:Nat→Int
 told:List S9
structure Out where
 n:Nd
 ls:List Y3
 ts:List S9
def YR (n:Nd) (l:Y3):Out:=
 if Yq n.own.p n.own.l l.b≠0 then ⟨n,[⟨7,n.me,l.Jt,n.own.p,VX,[]⟩],[]⟩
 else if n.own.p=l.b then ⟨n,[⟨1,n.me,l.Jt,l.b,VX,n.own.l⟩],[]⟩
 else if J2 n.data n.Y9 l.b≠0 then ⟨n,[],[]⟩
 else ⟨{ n with data:=n.data++Yk (XT l.b),ZA:=some (.MD ⟨l.b,n.own.l⟩ l.Jt l.b n.own.l) },[],[]⟩
def asked (n:Nd) (l:Y3):Out:=
 if YK n.own.p n.own.l l.v≠0 then ⟨n,[⟨7,n.me,l.Jt,n.own.p,VX,[]⟩],[]⟩
 else if l.v∈n.own.l then ⟨n,[⟨3,n.me,l.Jt,Jn,l.v,[]⟩],[]⟩
 else if QY n.data n.Y9 l.v≠0 then ⟨n,[],[]⟩
 else ⟨{ n with data:=n.data++Yk (Qv l.v),ZA:=some (.Mi ⟨l.v.b,JA n.own.l l.v⟩ l.Jt l.v) },[],[]⟩
def Fq (st:List Value) (x:Cm):List Value:=if Oz st x=0 then (VL st x).cells else JH
def RV (st:List Value) (x:Cm):Int:=if Oz st x=0 then (VL st x).code else 0
def Kt (st:List Value) (x:Cm):Int:=if Oz st x=0 then (VL st x).val else 0
def Ux (n:Nd) (x:Cm):Nd:={ n with log:=n.log++[x],store:=Fq n.store x,queue:=n.queue.filter (fun y=>decide (y≠x)),waiting:=n.waiting.erase x }
def Tp (n:Nd) (x:Cm):List S9:=if x∈n.waiting then [⟨n.me,x.c,x.s,RV n.store x,Kt n.store x⟩] else []
def Yu:Nat→Nd→Nd × List S9
 | 0,n=>(n,[])
 | k+1,n=>match Yr n.known n.log.length with
  | none=>(n,[])
  | some x=>((Yu k (Ux n x)).1,Tp n x++(Yu k (Ux n x)).2)
def QG (n:Nd) (s:Int) (x:Cm):Nd:={ n with known:=ins n.known s x }
def Un (n:Nd) (s:Int) (x:Cm):Out:=
 ⟨(Yu ((QG n s x).known.length+1) (QG n s x)).1,[],(Yu ((QG n s x).known.length+1) (QG n s x)).2⟩
def ZaO (n:Nd) (r:Jj) (l:Y3):Nd:={ n with Zi:=some { r with prom:=ins r.prom l.Jt l.vs } }
def Wb (r:Jj) (l:Y3):List (Int × Unit):=ins ((Yr r.Xt l.v.slot).getD []) l.Jt ()
def Nk (n:Nd) (r:Jj) (l:Y3):Nd:={ n with Zi:=some { r with Xt:=ins r.Xt l.v.slot (Wb r l) } }
def Yv (n:Nd) (l:Y3):Out:=
 match n.Zi with
 | none=>⟨n,[],[]⟩
 | some r=>
  if l.kind=1 then (if l.b=r.b then ⟨ZaO n r l,[],[]⟩ else ⟨n,[],[]⟩)
  else if l.v.b≠r.b then ⟨n,[],[]⟩
  else if 5<2*(Wb r l).length then Un (Nk n r l) l.v.slot l.v.cm
  else ⟨Nk n r l,[],[]⟩
def add (n:Nd) (x:Cm):Nd:=if x∈n.queue∨x∈n.log then n else { n with queue:=n.queue++[x] }
def notes (n:Nd) (l:Y3):Nd:=if below n.heard l.b then { n with heard:=l.b } else n
def Wc (n:Nd) (l:Y3):Out:=
 match Yr n.known l.v.slot with
 | some x=>⟨notes n l,[⟨6,n.me,l.Jt,Jn,TK l.v.slot Jn x,[]⟩],[]⟩
 | none=>⟨notes n l,[],[]⟩
def handle (n:Nd) (l:Y3):Out:=
 if l.kind=0 then YR n l else if l.kind=1∨l.kind=3 then Yv n l else if l.kind=2 then asked n l
 else if l.kind=4 then ⟨add n l.v.cm,[],[]⟩ else if l.kind=5 then Wc n l else if l.kind=6 then Un n l.v.slot l.v.cm else ⟨notes n l,[],[]⟩
def Z3 (r:Jj):List (List Vt):=(List.range 5).map fun (m:Nat)=>(Yr r.prom (m:Int)).getD []
def RW (l:List Vt):Int:=l.foldl (fun t v=>if t<v.slot then v.slot else t) (-1)
def Sn (LL:List (List Vt)) (s:Int):Cm:=if WR s LL.flatten=0 then (QW s LL.flatten).cm else Ks
def XJ (n:Nd) (LL:List (List Vt)) (pr:List (Int × Cm)) (s:Nat):List (Int × Cm):=if Yr n.known (s:Int)=none then ins pr (s:Int) (Sn LL s) else pr
def Tq (n:Nd) (r:Jj):Jj:=
 { r with prop:=(List.range' n.log.length ((RW (Z3 r).flatten+1).toNat-n.log.length)).foldl (XJ n (Z3 r)) r.prop,begun:=true }
def QH (n:Nd) (r:Jj) (x:Cm):Nat→Nat→Option Nat
 | 0,_=>none
 | k+1,s=>if Yr r.prop (s:Int)=some x∨Yr n.known (s:Int)=some x then none
  else if Yr r.prop (s:Int)=none∧Yr n.known (s:Int)=none then some s else QH n r x k (s+1)
def free (n:Nd) (r:Jj) (x:Cm):Option Nat:=QH n r x (40-n.log.length) n.log.length
def We (n:Nd) (r:Jj) (x:Cm):Jj:=match free n r x with|some s=>{ r with prop:=ins r.prop (s:Int) x }|none=>r
def Ju (n:Nd) (r:Jj) (l:List Cm):Jj:=l.foldl (We n) r
def Nl (n:Nd) (r:Jj):List Y3:=(List.range 5).flatMap fun (m:Nat)=>if Yr r.prom (m:Int)=none then [⟨0,n.me,m,r.b,VX,[]⟩] else []
def RX (n:Nd) (r:Jj) (s:Nat) (x:Cm) (m:Nat):List Y3:=if Yr ((Yr r.Xt (s:Int)).getD []) (m:Int)=none then [⟨2,n.me,m,Jn,TK s r.b x,[]⟩] else []
def Wt (n:Nd) (r:Jj) (s:Nat):List Y3:=match Yr r.prop (s:Int) with
 | some x=>if Yr n.known (s:Int)=none then (List.range 5).flatMap (RX n r s x) else []
 | none=>[]
def OB (n:Nd) (r:Jj):List Y3:=(List.range 40).flatMap (Wt n r)
def Uo (n:Nd) (r:Jj):Jj:=Ju n (if r.begun=true then r else Tq n r) n.queue
def Qx (n:Nd) (r:Jj):Out:=
 if below n.own.p r.b then
  (if J2 n.data n.Y9 r.b≠0 then ⟨n,[],[]⟩ else
    ⟨{ n with data:=n.data++Yk (XT r.b),ZA:=some (.own (if Yq n.own.p n.own.l r.b=0 then ⟨r.b,n.own.l⟩ else XU) (if Yq n.own.p n.own.l r.b=0 then n.own.l else []) true) },[],[]⟩)
 else if ¬5<2*r.prom.length then ⟨n,Nl n r,[]⟩
 else ⟨{ n with Zi:=some (Uo n r) },OB n (Uo n r),[]⟩
def still (n:Nd):Nd:=match n.Zi with|some r=>if below r.b n.own.p then { n with Zi:=none } else n|none=>n
def VM (n:Nd):List Y3:=n.queue.map fun x=>⟨4,n.me,n.own.p.n,Jn,TK 0 Jn x,[]⟩
def Yx (n:Nd):Out:=match n.Zi with
 | some r=>Qx n r
 | none=>if 0<n.own.p.r∧n.own.p.n≠n.me then ⟨n,VM n,[]⟩ else ⟨n,[],[]⟩
def UA (n:Nd):YG:=if below n.own.p n.heard then n.heard else n.own.p
def Qh (n:Nd):Nd:={ n with Xk:=(n.Xk+1)%5 }
def Vi (n:Nd):List Y3:=if n.Xk≠n.me∧n.log.length<40 then [⟨5,n.me,n.Xk,UA n,TK n.log.length Jn Ks,[]⟩] else []
def Wf (n:Nd):Out:=
 if (Yx (still n)).n.ZA.isSome=true then Yx (still n)
 else ⟨Qh (Yx (still n)).n,(Yx (still n)).ls++Vi (Qh (Yx (still n)).n),[]⟩
def synced (n:Nd):Nd:={ n with data:=if YO n.data n.Y9 then n.data else [],Y9:=if YO n.data n.Y9 then (n.data.length:Int) else 0,ZA:=none }
def finish (n:Nd):DM→Out
 | .MD a to b vs=>⟨{ n with own:=a },[⟨1,n.me,to,b,VX,vs⟩],[]⟩
 | .Mi a to v=>⟨{ n with own:=a },[⟨3,n.me,to,Jn,v,[]⟩],[]⟩
 | .own a vs cur=>⟨{ n with own:=a,Zi:=if cur=true then n.Zi.map (fun r=>{ r with prom:=ins r.prom n.me vs }) else n.Zi },[],[]⟩
def drain:Nd→List Y3→Out
 | n,[]=>⟨{ n with inbox:=[] },[],[]⟩
 | n,l :: k=>if n.ZA.isSome=true then ⟨{ n with inbox:=l :: k },[],[]⟩
  else ⟨(drain (handle { n with inbox:=k } l).n k).n,(handle { n with inbox:=k } l).ls++(drain (handle { n with inbox:=k } l).n k).ls,(handle { n with inbox:=k } l).ts++(drain (handle { n with inbox:=k } l).n k).ts⟩
def step (n:Nd):Out:=
 if n.up=true then (match n.ZA with
  | some p=>finish (synced n) p
  | none=>if (drain n n.inbox).n.ZA.isSome=true then drain n n.inbox
   else ⟨(Wf (drain n n.inbox).n).n,(drain n n.inbox).ls++(Wf (drain n n.inbox).n).ls,(drain n n.inbox).ts++(Wf (drain n n.inbox).n).ts⟩)
 else ⟨n,[],[]⟩
def blank (i:Nat) (up:Bool) (data:List Nat) (Y9:Int) (own:Qw):Nd:=⟨i,up,data,Y9,own,Jn,none,[],[],JH,[],[],[],none,0⟩
def Xz (n:Nd):YG:=⟨match n.Zi with
 | some r=>max (max n.own.p.r n.heard.r+1) (r.b.r+1)
 | none=>max n.own.p.r n.heard.r+1,n.me⟩
def Xf:Option DM→Option DM
 | some (.own a vs _)=>some (.own a vs false)
 | p=>p
def lead (n:Nd):Nd:=if n.up=false∨65536<(Xz n).r then n else { n with Zi:=some ⟨Xz n,[],false,[],[]⟩,ZA:=Xf n.ZA }
def XX (rc:List Nat) (now:Int):Cm:=if Yo rc now=0 then ⟨Xi ((Xp rc).drop 22) 0,Xi ((Xp rc).drop 22) 1,Xi ((Xp rc).drop 22) 2,Xi ((Xp rc).drop 22) 3,Xi ((Xp rc).drop 22) 4⟩ else Ks
def Ku (l:List Nat):Nat→Qw→Nat→Qw × Nat
 | 0,a,k=>(a,k)
 | f+1,a,k=>match Yl l a k with
  | none=>(a,k)
  | some x=>Ku l f x.1 x.2
def Wg (l:List Nat):Qw × Nat:=Ku l (l.length+1) XU 0
def Qf (l:List Nat) (n k:Int):Int:=n+(if (l.length:Int)-n<k then (l.length:Int)-n else k)
def crashed (i:Nat) (n:Nd) (Zc:Int):Nd:=
 if n.up=true then (if YO n.data n.Y9∧0≤Zc then blank i false (n.data.take (Qf n.data n.Y9 Zc).toNat) (Qf n.data n.Y9 Zc) XU else blank i false [] 0 XU) else n
def Kv (l:List Nat) (n:Int):List Nat:=if YO l n then l.take (Wg l).2 else []
def A0 (l:List Nat) (n:Int):Int:=if YO l n then (if ((Wg l).2:Int)<n then ((Wg l).2:Int) else n) else 0
def started (i:Nat) (n:Nd):Nd:=
 if n.up=true then n else blank i true (Kv n.data n.Y9) (A0 n.data n.Y9) (if YO (Kv n.data n.Y9) (A0 n.data n.Y9) then (Wg (Kv n.data n.Y9)).1 else XU)
structure Ac where
 kind:Int
 node:Nat
 at':Nat
 Zc:Int
 data:List Nat
def Wd.set (w:Wd) (i:Nat) (n:Nd):Wd:={ w with nodes:=fun j=>if j=i then n else w.nodes j }
def Wd.out (w:Wd) (i:Nat) (o:Out):Wd:={ nodes:=fun j=>if j=i then o.n else w.nodes j,Zm:=w.Zm++o.ls,bad:=w.bad,told:=w.told++o.ts }
def Ue (w:Wd) (l:Y3):Wd:=if (w.nodes l.to.toNat).up=true then w.set l.to.toNat { w.nodes l.to.toNat with inbox:=(w.nodes l.to.toNat).inbox++[l] } else w
def pick (w:Wd) (at':Nat) (comes stays:Bool):Wd:=
 match w.Zm[at'%w.Zm.length]? with
 | none=>w
 | some l=>if comes=true then Ue (if stays=true then w else { w with Zm:=w.Zm.eraseIdx (at'%w.Zm.length) }) l else (if stays=true then w else { w with Zm:=w.Zm.eraseIdx (at'%w.Zm.length) })
def OC (n:Nd) (x:Cm):Nd:=if x∈n.waiting then n else { n with waiting:=n.waiting++[x] }
def Tt (w:Wd) (i:Nat) (data:List Nat):Wd:=
 if (w.nodes i).up=true then
  (if Yo data (w.nodes i).log.length≠0 then { w with bad:=fun j=>if j=i then w.bad i+1 else w.bad j }
  else if XX data (w.nodes i).log.length∈(w.nodes i).log then
   { w with told:=w.told++[⟨(w.nodes i).me,(XX data (w.nodes i).log.length).c,(XX data (w.nodes i).log.length).s,RV (w.nodes i).store (XX data (w.nodes i).log.length),Kt (w.nodes i).store (XX data (w.nodes i).log.length)⟩] }
  else w.set i (OC (add (w.nodes i) (XX data (w.nodes i).log.length)) (XX data (w.nodes i).log.length)))
 else w
def act (w:Wd) (a:Ac):Wd:=
 if a.kind=1 then Tt w a.node a.data
 else if a.kind=2 then w.set a.node (lead (w.nodes a.node))
 else if a.kind=3 then w.out a.node (step (w.nodes a.node))
 else if a.kind=4∨a.kind=5∨a.kind=6 then pick w a.at' (decide (a.kind≠5)) (decide (a.kind=6))
 else if a.kind=7 then w.Zm.foldl Ue { w with Zm:=[] }
 else if a.kind=8 then w.set a.node (crashed a.node (w.nodes a.node) a.Zc)
 else w.set a.node (started a.node (w.nodes a.node))
def Vj:Wd:=⟨fun i=>blank i true [] 0 XU,[],fun _=>0,[]⟩
def RY (l:List Ac):Wd:=l.foldl act Vj
set_option maxRecDepth 100000
@[go_sem] theorem VN:bM Tryz.prog 107=some 49:=by kernel_rfl
@[go_sem] theorem Mj:bM Tryz.prog 166=some 103:=by kernel_rfl
@[go_sem] theorem Kw:bM Tryz.prog 167=some 204:=by kernel_rfl
@[go_sem] theorem HL:bM Tryz.prog 204=some 205:=by kernel_rfl
@[go_sem] theorem om:bM Tryz.prog 187=some 186:=by kernel_rfl
@[go_sem] theorem OD:xf Tryz.prog 49=some (.agg Ks.C.toArray):=by kernel_rfl
@[go_sem] theorem oq:xf Tryz.prog 103=some (.slice none 0 0):=by kernel_rfl
@[go_sem] theorem HM:xf Tryz.prog 204=some (.map none):=by kernel_rfl
@[go_sem] theorem xV:xf Tryz.prog 205=some (.agg #[]):=by kernel_rfl
@[go_sem] theorem Zfv:xf Tryz.prog 186=some .nilFunc:=by kernel_rfl
@[go_sem] theorem Zzi:tkp Tryz.prog 106=true:=by kernel_rfl
@[go_sem] theorem Zzj:tkm Tryz.prog 204=true:=by kernel_rfl
@[go_sem] theorem Zzk:sQ Tryz.prog 1=true:=by kernel_rfl
inductive Tg where
 | world
 | nodes
 | Zm
 | told
 | node (i:Nat)
 | known (i:Nat)
 | log (i:Nat)
 | queue (i:Nat)
 | waiting (i:Nat)
 | inbox (i:Nat)
 | Zi (i:Nat)
 | prom (i:Nat)
 | prop (i:Nat)
 | Xt (i:Nat)
 | Tu (i:Nat) (s:Int)
 | Xf (i:Nat)
def Tg.of:Tg→Option Nat
 | .world=>none
 | .nodes=>none
 | .Zm=>none
 | .told=>none
 | .node i=>some i
 | .known i=>some i
 | .log i=>some i
 | .queue i=>some i
 | .waiting i=>some i
 | .inbox i=>some i
 | .Zi i=>some i
 | .prom i=>some i
 | .prop i=>some i
 | .Xt i=>some i
 | .Tu i _=>some i
 | .Xf i=>some i
abbrev Ow:=Nat→Option Tg
structure Im (o:Ow) (n:Nat) (h:Hp) (v:Value) (m:Nat) (cs:List Value):Prop where
 sl:Sl n h v m cs
 fits:∃p c,v=.slice p m c∧m≤c
 free:∀b,ZO v=some b→b<h.size∧o b=none
theorem Im.Zc {S:Tg→Prop} {o o':Ow} {n m:Nat} {h h':Hp} {v:Value} {cs:List Value} (s:Im o n h v m cs) (k:Kp S o h o' h'):Im o' n h' v m cs:=by
 obtain⟨⟨p,c,rfl,hl,qF⟩,⟨p',c',he,hm⟩,hf⟩:=s
 simp only[Value.slice.injEq,true_and]at he
 obtain⟨rfl,rfl⟩:=he
 have yZ:∀b,ZO (.slice p m c)=some b→b<h.size∧o b=none∧h'[b]? = h[b]? ∧ o' b=none:=fun b hb=>by
  obtain⟨h1,h2⟩:=hf b hb
  obtain⟨h3,h4⟩:=k.Zc b h1 fun t ht=>by rw[h2]at ht;cases ht
  exact⟨h1,h2,h3,by rw[h4,h2]⟩
 refine⟨⟨p,c,rfl,hl,fun Yw=>?_⟩,⟨p,c,rfl,hm⟩,fun b hb=>⟨Nat.lt_of_lt_of_le (yZ b hb).1 k.size,(yZ b hb).2.2.2⟩⟩
 obtain⟨b,off,rfl,YV⟩:=qF Yw
 have bF:c≠0:=by
  intro e
  have:m=0:=by omega
  subst this
  exact Yw (List.eq_nil_of_length_eq_zero (by simpa using hl))
 have hb:ZO (.slice (some ⟨b,off,none⟩) m c)=some b:=by simp[ZO,bF]
 refine⟨b,off,rfl,fun i hi=>?_⟩
 have:=YV i hi
 unfold hc at this ⊢
 rw[(yZ b hb).2.2.1]
 exact this
theorem Im.QZ {o:Ow} {B n m:Nat} {E:TypeId} {h:Hp} {v:Value} {cs:List Value} (s:Qs B E n h v m cs) (hd:∀b,B≤b→o b=none):Im o n h v m cs:=by
 refine⟨s.sl,?_,fun b hb=>?_⟩
 ·rcases s with⟨⟨p,rfl⟩,rfl,_⟩|⟨b,cap,sp,_,rfl,_,_,_,hm⟩
  ·exact⟨p,0,rfl,Nat.le_refl _⟩
  ·exact⟨_,cap,rfl,hm⟩
 ·exact⟨s.lt b hb,hd b (s.ZF b hb)⟩
theorem Im.nil (o:Ow) (n:Nat) (h:Hp) (p:Option Addr):Im o n h (.slice p 0 0) 0 []:=
 ⟨⟨p,0,rfl,by simp,fun Yw=>absurd rfl Yw⟩,⟨p,0,rfl,Nat.le_refl _⟩,fun b hb=>by cases p<;>simp[ZO]at hb⟩
def Wm (o:Ow) (h:Hp) (v:Value) (l:List Vt):Prop:=Im o 8 h v l.length (Zz Zn l)
def Tv (o:Ow) (h:Hp) (v:Value) (l:List Nat):Prop:=Im o 1 h v l.length (l.map bv)∧∀x∈l,x<256
theorem Wm.ts {o:Ow} {h:Hp} {v:Value} {l:List Vt} (s:Wm o h v l):Ts Zn 8 h v l:=⟨Im.sl s⟩
theorem Tv.bs {o:Ow} {h:Hp} {v:Value} {l:List Nat} (s:Tv o h v l):Bs h v l:=⟨s.1.sl,s.2⟩
theorem Wm.Zc {S:Tg→Prop} {o o':Ow} {h h':Hp} {v:Value} {l:List Vt} (s:Wm o h v l) (k:Kp S o h o' h'):Wm o' h' v l:=Im.Zc s k
theorem Tv.Zc {S:Tg→Prop} {o o':Ow} {h h':Hp} {v:Value} {l:List Nat} (s:Tv o h v l) (k:Kp S o h o' h'):Tv o' h' v l:=⟨s.1.Zc k,s.2⟩
def YY (l:Y3) (w:Value):List Value:=[.int .i64 l.kind,.int .i64 l.Jt,.int .i64 l.to,.int .i64 l.b.r,.int .i64 l.b.n,.int .i64 l.v.slot,.int .i64 l.v.b.r,.int .i64 l.v.b.n,.int .i64 l.v.k,.int .i64 l.v.c,.int .i64 l.v.s,.int .i64 l.v.nm,.int .i64 l.v.v,w]
def Mk (x:Y3 × Value):List Value:=YY x.1 x.2
def Kx (t:S9):List Value:=[.int .i64 t.node,.int .i64 t.c,.int .i64 t.s,.int .i64 t.code,.int .i64 t.val]
def Zo (b:Nat):Value:=.pointer (some ⟨b,0,none⟩)
def WU (x:Cm):Value:=.agg x.C.toArray
def QI (o:Ow) (t:Tg) (h:Hp) (v:Value) (l:List Cm):Prop:=YB o t 49 5 h v l.length (Zz Qu.C l)
def QO (o:Ow) (t:Tg) (h:Hp) (v:Value) (l:List Y3):Prop:=
 ∃xs:List (Y3 × Value),xs.map (·.1)=l∧YB o t 148 14 h v xs.length (Zz Mk xs)∧∀x∈xs,Wm o h x.2 x.1.vs
theorem QI.Zc {S:Tg→Prop} {o o':Ow} {t:Tg} {h h':Hp} {v:Value} {l:List Cm} (s:QI o t h v l) (k:Kp S o h o' h') (hn:¬S t):QI o' t h' v l:=YB.Zc s k hn
theorem QO.Zc {S:Tg→Prop} {o o':Ow} {t:Tg} {h h':Hp} {v:Value} {l:List Y3} (s:QO o t h v l) (k:Kp S o h o' h') (hn:¬S t):QO o' t h' v l:=by
 obtain⟨xs,h1,h2,h3⟩:=s
 exact⟨xs,h1,h2.Zc k hn,fun x hx=>(h3 x hx).Zc k⟩
def Qq (o:Ow) (t:Tg) (h:Hp) (b:Nat) (l:List (Int × Value)):Prop:=o b=some t∧h[b]? = some (Xo l)
theorem Qq.Zc {S:Tg→Prop} {o o':Ow} {t:Tg} {h h':Hp} {b:Nat} {l:List (Int × Value)} (s:Qq o t h b l) (k:Kp S o h o' h') (hn:¬S t):Qq o' t h' b l:=by
 have Rj:∀u,o b=some u→¬S u:=fun u hu=>by rw[s.1]at hu;cases hu;exact hn
 exact⟨by rw[k.own s.2 Rj,s.1],k.get s.2 Rj⟩
def QP (o:Ow) (t:Tg) (h:Hp) (b:Nat) (x:Obj):Prop:=o b=some t∧h[b]? = some x
theorem QP.Zc {S:Tg→Prop} {o o':Ow} {t:Tg} {h h':Hp} {b:Nat} {x:Obj} (s:QP o t h b x) (k:Kp S o h o' h') (hn:¬S t):QP o' t h' b x:=by
 have Rj:∀u,o b=some u→¬S u:=fun u hu=>by rw[s.1]at hu;cases hu;exact hn
 exact⟨by rw[k.own s.2 Rj,s.1],k.get s.2 Rj⟩
def ZN (o:Ow) (h:Hp) (b:Nat) (x:Obj):Prop:=o b=none∧h[b]? = some x
theorem ZN.Zc {S:Tg→Prop} {o o':Ow} {h h':Hp} {b:Nat} {x:Obj} (s:ZN o h b x) (k:Kp S o h o' h'):ZN o' h' b x:=(k.free s.2 s.1).symm
def Q0 (o:Ow) (h:Hp) (pv:List (Int × Value)) (pr:List (Int × List Vt)):Prop:=Cz (fun x y=>x.1=y.1∧Wm o h x.2 y.2) pv pr
theorem Q0.Zc {S:Tg→Prop} {o o':Ow} {h h':Hp} {pv:List (Int × Value)} {pr:List (Int × List Vt)} (s:Q0 o h pv pr) (k:Kp S o h o' h'):Q0 o' h' pv pr:=by
 induction s with
 | nil=>exact .nil
 | cons a _ ih=>exact .cons ⟨a.1,a.2.Zc k⟩ ih
def ME (l:List (Int × Unit)):List (Int × Value):=Uw (fun _=>.agg #[]) l
def QQ (o:Ow) (i:Nat) (h:Hp) (sv:List (Int × Nat)) (vt:List (Int × List (Int × Unit))):Prop:=Cz (fun x y=>x.1=y.1∧Qq o (.Tu i y.1) h x.2 (ME y.2)) sv vt
theorem QQ.Zc {S:Tg→Prop} {o o':Ow} {i:Nat} {h h':Hp} {sv:List (Int × Nat)} {vt:List (Int × List (Int × Unit))} (s:QQ o i h sv vt) (k:Kp S o h o' h') (hn:∀s,¬S (.Tu i s)):QQ o' i h' sv vt:=by
 induction s with
 | nil=>exact .nil
 | cons a _ ih=>exact .cons ⟨a.1,a.2.Zc k (hn _)⟩ ih
def qM (b:Nat):Value:=.map (some b)
structure RA where
 rb:Nat
 pb:Nat
 qb:Nat
 vb:Nat
 pv:List (Int × Value)
 sv:List (Int × Nat)
def A7 (r:Jj) (a:RA):List Value:=[.int .i64 r.b.r,.int .i64 r.b.n,.map (some a.pb),.bool r.begun,.map (some a.qb),.map (some a.vb)]
structure YL (o:Ow) (i:Nat) (h:Hp) (a:RA) (r:Jj):Prop where
 ZF:QP o (.Zi i) h a.rb (.cells (A7 r a).toArray 169)
 prom:Qq o (.prom i) h a.pb a.pv
 So:Q0 o h a.pv r.prom
 prop:Qq o (.prop i) h a.qb (Uw WU r.prop)
 Xt:Qq o (.Xt i) h a.vb (Uw qM a.sv)
 VO:QQ o i h a.sv r.Xt
 keys:(a.sv.map (·.1)).Nodup
def XF (i:Nat) (t:Tg):Prop:=t=.Zi i∨t=.prom i∨t=.prop i∨t=.Xt i∨∃s,t=.Tu i s
theorem YL.Zc {S:Tg→Prop} {o o':Ow} {i:Nat} {h h':Hp} {a:RA} {r:Jj} (s:YL o i h a r) (k:Kp S o h o' h') (hn:∀t,XF i t→¬S t):YL o' i h' a r:=
 ⟨s.ZF.Zc k (hn _ (.inl rfl)),s.prom.Zc k (hn _ (.inr (.inl rfl))),s.So.Zc k,s.prop.Zc k (hn _ (.inr (.inr (.inl rfl)))),s.Xt.Zc k (hn _ (.inr (.inr (.inr (.inl rfl))))),s.VO.Zc k (fun s=>hn _ (.inr (.inr (.inr (.inr ⟨s,rfl⟩))))),s.keys⟩
def RZ:Option RA→Value
 | some a=>Zo a.rb
 | none=>.pointer none
def uE (o:Ow) (i:Nat) (h:Hp):Option RA→Option Jj→Prop
 | some a,some r=>YL o i h a r
 | none,none=>True
 | _,_=>False
theorem uE.Zc {S:Tg→Prop} {o o':Ow} {i:Nat} {h h':Hp} {a:Option RA} {r:Option Jj} (s:uE o i h a r) (k:Kp S o h o' h') (hn:∀t,XF i t→¬S t):uE o' i h' a r:=by
 cases a<;>cases r<;>first|exact s|exact YL.Zc s k hn
def Wu (f:FuncId) (l:List Nat):Value:=.func (.func f) #[] (l.map Zo).toArray
def ov (o:Ow) (h:Hp) (wb nb:Nat) (v:Value) (to:Int) (b:YG) (vs:List Vt):Prop:=
 ∃b3 b4 b5 b7 l w5 w,v=Wu 110 [b3,b4,b5,b7]∧ZN o h b3 (.cells [Zo wb].toArray 91)∧ZN o h b4 (.cells [Zo nb].toArray 98) ∧
  ZN o h b5 (.cells (YY l w5).toArray 148)∧l.Jt=to∧l.b=b∧ZN o h b7 (.cells [w].toArray 103)∧Wm o h w vs
def oy (o:Ow) (h:Hp) (wb nb:Nat) (v:Value) (to:Int) (x:Vt):Prop:=
 ∃b3 b4 b5 l w5,v=Wu 115 [b3,b4,b5]∧ZN o h b3 (.cells [Zo wb].toArray 91)∧ZN o h b4 (.cells [Zo nb].toArray 98) ∧
  ZN o h b5 (.cells (YY l w5).toArray 148)∧l.Jt=to∧l.v=x
theorem ov.Zc {S:Tg→Prop} {o o':Ow} {h h':Hp} {wb nb:Nat} {v:Value} {to:Int} {b:YG} {vs:List Vt} (s:ov o h wb nb v to b vs) (k:Kp S o h o' h'):ov o' h' wb nb v to b vs:=by
 obtain⟨b3,b4,b5,b7,l,w5,w,h1,h2,h3,h4,h5,h6,h7,h8⟩:=s
 exact⟨b3,b4,b5,b7,l,w5,w,h1,h2.Zc k,h3.Zc k,h4.Zc k,h5,h6,h7.Zc k,h8.Zc k⟩
theorem oy.Zc {S:Tg→Prop} {o o':Ow} {h h':Hp} {wb nb:Nat} {v:Value} {to:Int} {x:Vt} (s:oy o h wb nb v to x) (k:Kp S o h o' h'):oy o' h' wb nb v to x:=by
 obtain⟨b3,b4,b5,l,w5,h1,h2,h3,h4,h5,h6⟩:=s
 exact⟨b3,b4,b5,l,w5,h1,h2.Zc k,h3.Zc k,h4.Zc k,h5,h6⟩
def Sp (o:Ow) (h:Hp) (b:Nat) (a:Qw):Prop:=∃w,ZN o h b (.cells (YN a.p w).toArray 105)∧Wm o h w a.l
theorem Sp.Zc {S:Tg→Prop} {o o':Ow} {h h':Hp} {b:Nat} {a:Qw} (s:Sp o h b a) (k:Kp S o h o' h'):Sp o' h' b a:=by
 obtain⟨w,h1,h2⟩:=s
 exact⟨w,h1.Zc k,h2.Zc k⟩
def Zfw (o:Ow) (h:Hp) (i nb:Nat) (ra:Option RA) (v:Value) (a:Qw) (vs:List Vt) (cur:Bool):Prop:=
 ∃b6 b4 b7 b5 w rb,v=Wu 119 [b6,b4,b7,b5]∧Sp o h b6 a∧ZN o h b4 (.cells [Zo nb].toArray 98)∧ZN o h b7 (.cells [w].toArray 103)∧Wm o h w vs ∧
  ZN o h b5 (.cells [Zo rb].toArray 106) ∧
  (if cur=true then ∃a,ra=some a∧a.rb=rb else ∃cs pb pv,QP o (.Xf i) h rb (.cells cs 169)∧cs[2]? = some (.map (some pb))∧Qq o (.Xf i) h pb pv)
def Up (o:Ow) (h:Hp) (wb i nb:Nat) (ra:Option RA):Value→Option DM→Prop
 | v,none=>v=.nilFunc
 | v,some (.MD a to b vs)=>∃b6 b4 b9 u,v=Wu 112 [b6,b4,b9]∧Sp o h b6 a∧ZN o h b4 (.cells [Zo nb].toArray 98)∧ZN o h b9 (.cells [u].toArray 1)∧ov o h wb nb u to b vs
 | v,some (.Mi a to x)=>∃b6 b4 b9 u,v=Wu 118 [b6,b4,b9]∧Sp o h b6 a∧ZN o h b4 (.cells [Zo nb].toArray 98)∧ZN o h b9 (.cells [u].toArray 1)∧oy o h wb nb u to x
 | v,some (.own a vs cur)=>Zfw o h i nb ra v a vs cur
theorem Up.Zc {S:Tg→Prop} {o o':Ow} {h h':Hp} {wb i nb:Nat} {ra:Option RA} {v:Value} {p:Option DM} (s:Up o h wb i nb ra v p) (k:Kp S o h o' h') (hn:¬S (.Xf i)):Up o' h' wb i nb ra v p:=by
 match p,s with
 | none,s=>exact s
 | some (.MD a to b vs),⟨b6,b4,b9,u,h1,h2,h3,h4,h5⟩=>exact⟨b6,b4,b9,u,h1,h2.Zc k,h3.Zc k,h4.Zc k,h5.Zc k⟩
 | some (.Mi a to x),⟨b6,b4,b9,u,h1,h2,h3,h4,h5⟩=>exact⟨b6,b4,b9,u,h1,h2.Zc k,h3.Zc k,h4.Zc k,h5.Zc k⟩
 | some (.own a vs cur),⟨b6,b4,b7,b5,w,rb,h1,h2,h3,h4,h5,h6,h7⟩=>
  refine⟨b6,b4,b7,b5,w,rb,h1,h2.Zc k,h3.Zc k,h4.Zc k,h5.Zc k,h6.Zc k,?_⟩
  cases cur with
  | true=>exact h7
  | false=>
   obtain⟨cs,pb,pv,g1,g2,g3⟩:=h7
   exact⟨cs,pb,pv,g1.Zc k hn,g2,g3.Zc k hn⟩
structure NA where
 data:Value
 YQ:Value
 Zi:Option RA
 known:Nat
 log:Value
 queue:Value
 waiting:Value
 inbox:Value
 ZA:Value
def UB (n:Nd) (a:NA):List Value:=[.int .i64 n.me,.bool n.up,a.data,.int .i64 n.Y9,.int .i64 n.own.p.r,.int .i64 n.own.p.n,a.YQ,.int .i64 n.heard.r,.int .i64 n.heard.n,RZ a.Zi,.map (some a.known),a.log]++(n.store++[a.queue,a.waiting,a.inbox,a.ZA,.int .i64 n.Xk])
def Xg (n:Nd) (a:NA):Obj:=.cells (UB n a).toArray 109
structure OE (cs:List Value):Prop where
 fit:Yy X2 cs=true
 num:∀i,i<32→nth cs i=some (.int .i64 (ci cs i))
 yes:∀i,32≤i→i<40→nth cs i=some (.bool (cb cs i))
structure ZU (o:Ow) (h:Hp) (wb i nb:Nat) (a:NA) (n:Nd):Prop where
 data:Tv o h a.data n.data
 YQ:Wm o h a.YQ n.own.l
 Zi:uE o i h a.Zi n.Zi
 known:Qq o (.known i) h a.known (Uw WU n.known)
 log:QI o (.log i) h a.log n.log
 queue:QI o (.queue i) h a.queue n.queue
 waiting:QI o (.waiting i) h a.waiting n.waiting
 inbox:QO o (.inbox i) h a.inbox n.inbox
 ZA:Up o h wb i nb a.Zi a.ZA n.ZA
 store:OE n.store
structure ZJ (o:Ow) (h:Hp) (wb i nb:Nat) (a:NA) (n:Nd):Prop where
 ZF:QP o (.node i) h nb (Xg n a)
 pt:ZU o h wb i nb a n
theorem Nm {i:Nat} {t:Tg} (h:XF i t):t.of=some i:=by
 rcases h with rfl|rfl|rfl|rfl|⟨s,rfl⟩<;>rfl
section
variable {S:Tg→Prop} {o o':Ow} {h h':Hp} {wb i nb:Nat} {a:NA} {n:Nd}
theorem ZU.Zc (s:ZU o h wb i nb a n) (k:Kp S o h o' h') (hn:∀t,S t→t.of≠some i∨t=.node i):ZU o' h' wb i nb a n:=by
 have q:∀t:Tg,t.of=some i→t ≠ .node i→¬S t:=fun t ht Yw hs=>(hn t hs).elim (fun q=>q ht) Yw
 exact⟨s.data.Zc k,s.YQ.Zc k,s.Zi.Zc k (fun t ht=>q t (Nm ht) (by rcases ht with rfl|rfl|rfl|rfl|⟨z,rfl⟩<;>intro e<;>cases e)),s.known.Zc k (q _ rfl (by intro e;cases e)),s.log.Zc k (q _ rfl (by intro e;cases e)),s.queue.Zc k (q _ rfl (by intro e;cases e)),s.waiting.Zc k (q _ rfl (by intro e;cases e)),s.inbox.Zc k (q _ rfl (by intro e;cases e)),s.ZA.Zc k (q _ rfl (by intro e;cases e)),s.store⟩
theorem ZJ.Zc (s:ZJ o h wb i nb a n) (k:Kp S o h o' h') (hn:∀t,S t→t.of≠some i):ZJ o' h' wb i nb a n:=
 ⟨s.ZF.Zc k fun q=>hn _ q rfl,s.pt.Zc k fun t ht=>.inl (hn t ht)⟩
theorem ZU.put (s:ZU o h wb i nb a n) (d:Uq o h) {x:Obj} (b:QP o (.node i) h nb x):ZJ o (h.setIfInBounds nb (Xg n a)) wb i nb a n:=
 ⟨⟨b.1,Zv b.2⟩,s.Zc ((Kp.refl d (fun t=>t=.node i)).set b.1 rfl _) fun t ht=>.inr ht⟩
theorem ZU.write (s:ZU o h wb i nb a n) (d:Uq o h) {x:Obj} (b:QP o (.node i) h nb x) {e:Option Hp} (w:e=some (h.setIfInBounds nb (Xg n a))):∃g,e=some g∧ZJ o g wb i nb a n∧Kp (fun t=>t=.node i) o h o g:=
 ⟨_,w,s.put d b,(Kp.refl d (fun t=>t=.node i)).set b.1 rfl _⟩
theorem ZU.HN (s:ZU o h wb i nb a n) (k:Kp (fun t=>t=.queue i) o h o' h') {v:Value} {l:List Cm} (hv:QI o' (.queue i) h' v l):ZU o' h' wb i nb { a with queue:=v } { n with queue:=l }:=
 ⟨s.data.Zc k,s.YQ.Zc k,s.Zi.Zc k (fun t ht=>by rcases ht with rfl|rfl|rfl|rfl|⟨z,rfl⟩<;>intro e<;>cases e),s.known.Zc k (by intro e;cases e),s.log.Zc k (by intro e;cases e),hv,s.waiting.Zc k (by intro e;cases e),s.inbox.Zc k (by intro e;cases e),s.ZA.Zc k (by intro e;cases e),s.store⟩
theorem ZU.uF (s:ZU o h wb i nb a n) (k:Kp (fun t=>t=.log i) o h o' h') {v:Value} {l:List Cm} (hv:QI o' (.log i) h' v l):ZU o' h' wb i nb { a with log:=v } { n with log:=l }:=
 ⟨s.data.Zc k,s.YQ.Zc k,s.Zi.Zc k (fun t ht=>by rcases ht with rfl|rfl|rfl|rfl|⟨z,rfl⟩<;>intro e<;>cases e),s.known.Zc k (by intro e;cases e),hv,s.queue.Zc k (by intro e;cases e),s.waiting.Zc k (by intro e;cases e),s.inbox.Zc k (by intro e;cases e),s.ZA.Zc k (by intro e;cases e),s.store⟩
theorem ZU.Ml (s:ZU o h wb i nb a n) (k:Kp (fun t=>t=.waiting i) o h o' h') {v:Value} {l:List Cm} (hv:QI o' (.waiting i) h' v l):ZU o' h' wb i nb { a with waiting:=v } { n with waiting:=l }:=
 ⟨s.data.Zc k,s.YQ.Zc k,s.Zi.Zc k (fun t ht=>by rcases ht with rfl|rfl|rfl|rfl|⟨z,rfl⟩<;>intro e<;>cases e),s.known.Zc k (by intro e;cases e),s.log.Zc k (by intro e;cases e),s.queue.Zc k (by intro e;cases e),hv,s.inbox.Zc k (by intro e;cases e),s.ZA.Zc k (by intro e;cases e),s.store⟩
theorem ZU.gS (s:ZU o h wb i nb a n) (k:Kp (fun t=>t=.inbox i) o h o' h') {v:Value} {l:List Y3} (hv:QO o' (.inbox i) h' v l):ZU o' h' wb i nb { a with inbox:=v } { n with inbox:=l }:=
 ⟨s.data.Zc k,s.YQ.Zc k,s.Zi.Zc k (fun t ht=>by rcases ht with rfl|rfl|rfl|rfl|⟨z,rfl⟩<;>intro e<;>cases e),s.known.Zc k (by intro e;cases e),s.log.Zc k (by intro e;cases e),s.queue.Zc k (by intro e;cases e),s.waiting.Zc k (by intro e;cases e),hv,s.ZA.Zc k (by intro e;cases e),s.store⟩
theorem ZU.gT (s:ZU o h wb i nb a n) (k:Kp (fun t=>t=.known i) o h o' h') {v:Nat} {l:List (Int × Cm)} (hv:Qq o' (.known i) h' v (Uw WU l)):ZU o' h' wb i nb { a with known:=v } { n with known:=l }:=
 ⟨s.data.Zc k,s.YQ.Zc k,s.Zi.Zc k (fun t ht=>by rcases ht with rfl|rfl|rfl|rfl|⟨z,rfl⟩<;>intro e<;>cases e),hv,s.log.Zc k (by intro e;cases e),s.queue.Zc k (by intro e;cases e),s.waiting.Zc k (by intro e;cases e),s.inbox.Zc k (by intro e;cases e),s.ZA.Zc k (by intro e;cases e),s.store⟩
theorem ZU.Qr (s:ZU o h wb i nb a n) (k:Kp (XF i) o h o' h') {ra ra':RA} {r':Jj} (hr:a.Zi=some ra) (A9:ra'.rb=ra.rb) (hv:YL o' i h' ra' r'):ZU o' h' wb i nb { a with Zi:=some ra' } { n with Zi:=some r' }:=by
 have q:∀t,t.of=some i→(¬ ∃u,t=u∧XF i u)→¬XF i t:=fun t _ h2 h3=>h2 ⟨t,rfl,h3⟩
 have e:∀t:Tg,(t=.known i∨t=.log i∨t=.queue i∨t=.waiting i∨t=.inbox i∨t=.Xf i)→¬XF i t:=by
  intro t ht hr
  rcases ht with rfl|rfl|rfl|rfl|rfl|rfl<;>rcases hr with e|e|e|e|⟨s,e⟩<;>cases e
 refine⟨s.data.Zc k,s.YQ.Zc k,hv,s.known.Zc k (e _ (by simp)),s.log.Zc k (e _ (by simp)),s.queue.Zc k (e _ (by simp)),s.waiting.Zc k (e _ (by simp)),s.inbox.Zc k (e _ (by simp)),?_,s.store⟩
 have hp:=s.ZA.Zc k (e _ (by simp))
 show Up o' h' wb i nb (some ra') a.ZA n.ZA
 rw[hr]at hp
 match hn:n.ZA,hp with
 | none,hp=>exact hp
 | some (.MD _ _ _ _),hp=>exact hp
 | some (.Mi _ _ _),hp=>exact hp
 | some (.own _ _ cur),⟨b6,b4,b7,b5,w,rb,h1,h2,h3,h4,h5,h6,h7⟩=>
  refine⟨b6,b4,b7,b5,w,rb,h1,h2,h3,h4,h5,h6,?_⟩
  cases cur with
  | false=>exact h7
  | true=>
   obtain⟨c,hc,hcr⟩:=h7
   obtain rfl:=Option.some.inj hc
   exact⟨ra',rfl,A9.trans hcr⟩
end
structure WA where
 nodes:Value
 Zm:Value
 told:Value
def Xd (bad:Nat→Int) (a:WA):List Value:=[a.nodes,a.Zm,.int .i64 0,.bool false,.bool false,.bool false,.bool false,.bool false,.slice none 0 0,.int .i64 (bad 0),.int .i64 (bad 1),.int .i64 (bad 2),.int .i64 (bad 3),.int .i64 (bad 4),a.told]
structure ZG (o:Ow) (h:Hp) (wb:Nat) (nb:Nat→Nat) (a:WA) (fl:List Y3) (bad:Nat→Int) (told:List S9):Prop where
 ZF:QP o .world h wb (.cells (Xd bad a).toArray 97)
 nodes:YB o .nodes 98 1 h a.nodes 5 [Zo (nb 0),Zo (nb 1),Zo (nb 2),Zo (nb 3),Zo (nb 4)]
 Zm:QO o .Zm h a.Zm fl
 told:YB o .told 42 5 h a.told told.length (Zz Kx told)
theorem ZG.Zc {S:Tg→Prop} {o o':Ow} {h h':Hp} {wb:Nat} {nb:Nat→Nat} {a:WA} {fl:List Y3} {bad:Nat→Int} {told:List S9} (s:ZG o h wb nb a fl bad told) (k:Kp S o h o' h') (hn:∀t,S t→t.of≠none):ZG o' h' wb nb a fl bad told:=
 ⟨s.ZF.Zc k fun q=>hn _ q rfl,s.nodes.Zc k fun q=>hn _ q rfl,s.Zm.Zc k fun q=>hn _ q rfl,s.told.Zc k fun q=>hn _ q rfl⟩
def Qz (t:Tg):Prop:=False
section
variable {S:Tg→Prop} {o o':Ow} {h h':Hp}
theorem ZC (d:Uq o h) (b:Zg h.size h h'):Kp Qz o h o h':=Kp.LM d b _
theorem ZE (k:Kp Qz o h o' h'):Kp S o h o' h':=k.mono fun _ q=>q.elim
theorem ZJ.still {wb i nb:Nat} {a:NA} {n:Nd} (s:ZJ o h wb i nb a n) (k:Kp Qz o h o' h'):ZJ o' h' wb i nb a n:=s.Zc k fun _ q=>q.elim
theorem ZG.still {wb:Nat} {nb:Nat→Nat} {a:WA} {fl:List Y3} {bad:Nat→Int} {told:List S9} (s:ZG o h wb nb a fl bad told) (k:Kp Qz o h o' h'):ZG o' h' wb nb a fl bad told:=s.Zc k fun _ q=>q.elim
theorem ZX (d:Uq o h) (x:Obj):Kp Qz o h o (h.push x):=(Kp.refl d _).push x
end
structure CI (o:Ow) (h:Hp):Prop where
 tk:Tk h
 tn:Ev 0 niv TG h
 fk:o 1=none
 fn:o 0=none
theorem Fs {S:Tg→Prop} {o o':Ow} {h h':Hp} {g:Nat} {f:Nat→Value} {l:List Nat} (t:Ev g f l h) (hf:o g=none) (k:Kp S o h o' h'):Ev g f l h'∧o' g=none:=by
 obtain⟨h1,h2⟩:=k.Zc g t.1 fun t ht=>by rw[hf]at ht;cases ht
 refine⟨⟨Nat.lt_of_lt_of_le t.1 k.size,fun i hi=>?_⟩,by rw[h2,hf]⟩
 have:=t.2 i hi
 unfold hc at this ⊢
 rw[h1];exact this
theorem CI.Zc {S:Tg→Prop} {o o':Ow} {h h':Hp} (t:CI o h) (k:Kp S o h o' h'):CI o' h':=
 ⟨(Fs t.tk t.fk k).1,(Fs t.tn t.fn k).1,(Fs t.tk t.fk k).2,(Fs t.tn t.fn k).2⟩
theorem OE.len {cs:List Value} (s:OE cs):cs.length=40:=by
 have:=YP s.fit
 rw[this];rfl
theorem OE.one {cs:List Value} (s:OE cs):cs.all Z7=true:=LC s.fit
theorem oB (a:Option RA):Z7 (RZ a)=true:=by cases a<;>rfl
section
variable {h:Hp} {nb:Nat} {n:Nd} {a:NA}
structure ZaP (h:Hp) (nb:Nat) (n:Nd) (a:NA):Prop where
 me:hc h ⟨nb,0,none⟩=some (.int .i64 n.me)
 up:hc h ⟨nb,1,none⟩=some (.bool n.up)
 tape:rd h ⟨nb,2,none⟩ 2=some [a.data,.int .i64 n.Y9]
 own:rd h ⟨nb,4,none⟩ 3=some [.int .i64 n.own.p.r,.int .i64 n.own.p.n,a.YQ]
 DN:rd h ⟨nb,4,none⟩ 2=some [.int .i64 n.own.p.r,.int .i64 n.own.p.n]
 ZnT:hc h ⟨nb,4,none⟩=some (.int .i64 n.own.p.r)
 Zzm:hc h ⟨nb,5,none⟩=some (.int .i64 n.own.p.n)
 YQ:hc h ⟨nb,6,none⟩=some a.YQ
 heard:rd h ⟨nb,7,none⟩ 2=some [.int .i64 n.heard.r,.int .i64 n.heard.n]
 ZaQ:hc h ⟨nb,7,none⟩=some (.int .i64 n.heard.r)
 Zi:hc h ⟨nb,9,none⟩=some (RZ a.Zi)
 known:hc h ⟨nb,10,none⟩=some (.map (some a.known))
 log:hc h ⟨nb,11,none⟩=some a.log
 store:rd h ⟨nb,12,none⟩ 40=some n.store
 queue:hc h ⟨nb,52,none⟩=some a.queue
 waiting:hc h ⟨nb,53,none⟩=some a.waiting
 inbox:hc h ⟨nb,54,none⟩=some a.inbox
 ZA:hc h ⟨nb,55,none⟩=some a.ZA
 Xk:hc h ⟨nb,56,none⟩=some (.int .i64 n.Xk)
theorem HP (hs:n.store.length=40):(UB n a).length=57:=by
 unfold UB
 rw[List.length_append,List.length_append,hs];rfl
theorem Sq (hs:n.store.length=40) (k:Nat):nth (UB n a) (52+k)=nth [a.queue,a.waiting,a.inbox,a.ZA,.int .i64 n.Xk] k:=by
 unfold UB
 rw[Ym,Ym,List.getElem?_append_right (by simp;omega),List.getElem?_append_right (by simp;omega)]
 congr 1
 simp
 omega
theorem Zx (H:h[nb]? = some (Xg n a)) (hs:n.store.length=40):ZaP h nb n a:=by
 have l57:=HP (a:=a) hs
 have c:∀k,hc h ⟨nb,k,none⟩=nth (UB n a) k:=fun k=>Zh H
 have r:∀k m,k+m≤57→rd h ⟨nb,k,none⟩ m=some (((UB n a).drop k).take m):=fun k m hk=>Z5 H (by rw[l57];exact hk)
 refine⟨c 0,c 1,r 2 2 (by omega),r 4 3 (by omega),r 4 2 (by omega),c 4,c 5,c 6,r 7 2 (by omega),c 7,c 9,c 10,c 11,?_,(c 52).trans (Sq hs 0),(c 53).trans (Sq hs 1),(c 54).trans (Sq hs 2),(c 55).trans (Sq hs 3),(c 56).trans (Sq hs 4)⟩
 rw[r 12 40 (by omega)]
 congr 1
 unfold UB
 rw[List.drop_append_of_le_length (by simp)]
 simp only[List.drop_succ_cons,List.drop_nil,List.drop_zero,List.nil_append]
 rw[←hs,List.take_left']
 rfl
structure ZaR (h:Hp) (nb:Nat) (n:Nd) (a:NA):Prop where
 up:∀v,Jx h ⟨nb,1,none⟩ (.bool v)=some (h.setIfInBounds nb (Xg { n with up:=v } a))
 tape:∀d s,Z7 d=true→wr h ⟨nb,2,none⟩ [d,.int .i64 s]=some (h.setIfInBounds nb (Xg { n with Y9:=s } { a with data:=d }))
 own:∀r k w,Z7 w=true→wr h ⟨nb,4,none⟩ [.int .i64 r,.int .i64 k,w]=some (h.setIfInBounds nb (Xg { n with own:=⟨⟨r,k⟩,n.own.l⟩ } { a with YQ:=w }))
 heard:∀r k,wr h ⟨nb,7,none⟩ [.int .i64 r,.int .i64 k]=some (h.setIfInBounds nb (Xg { n with heard:=⟨r,k⟩ } a))
 Zi:∀b,Jx h ⟨nb,9,none⟩ (RZ b)=some (h.setIfInBounds nb (Xg n { a with Zi:=b }))
 log:∀v,Z7 v=true→Jx h ⟨nb,11,none⟩ v=some (h.setIfInBounds nb (Xg n { a with log:=v }))
 store:∀cs:List Value,cs.length=40→cs.all Z7=true→wr h ⟨nb,12,none⟩ cs=some (h.setIfInBounds nb (Xg { n with store:=cs } a))
 queue:∀v,Z7 v=true→Jx h ⟨nb,52,none⟩ v=some (h.setIfInBounds nb (Xg n { a with queue:=v }))
 waiting:∀v,Z7 v=true→Jx h ⟨nb,53,none⟩ v=some (h.setIfInBounds nb (Xg n { a with waiting:=v }))
 inbox:∀v,Z7 v=true→Jx h ⟨nb,54,none⟩ v=some (h.setIfInBounds nb (Xg n { a with inbox:=v }))
 ZA:∀v,Z7 v=true→Jx h ⟨nb,55,none⟩ v=some (h.setIfInBounds nb (Xg n { a with ZA:=v }))
 Xk:∀k,Jx h ⟨nb,56,none⟩ (.int .i64 k)=some (h.setIfInBounds nb (Xg { n with Xk:=k } a))
theorem set_tail (pre mid l:List Value) (k:Nat) (v:Value) (hk:pre.length+mid.length=52):(pre++(mid++l)).set (52+k) v=pre++(mid++l.set k v):=by
 rw[List.set_append_right _ _ (by omega),List.set_append_right _ _ (by omega)]
 congr 3
 omega
theorem YT (H:h[nb]? = some (Xg n a)) (hs:n.store.length=40):ZaR h nb n a:=by
 have l57:=HP (a:=a) hs
 have w1:∀(k:Nat) (v:Value) (n':Nd) (a':NA),k<57→Z7 v=true→(UB n a).set k v=UB n' a'→Jx h ⟨nb,k,none⟩ v=some (h.setIfInBounds nb (Xg n' a')):=fun k v n' a' hk hv he=>by
  rw[Yz H,if_pos ⟨by rw[l57];exact hk,hv⟩,he];rfl
 have w:∀(k:Nat) (vs:List Value) (n':Nd) (a':NA),k+vs.length≤57→vs.all Z7=true→Ys (UB n a) k vs=UB n' a'→wr h ⟨nb,k,none⟩ vs=some (h.setIfInBounds nb (Xg n' a')):=fun k vs n' a' hk hv he=>by
  rw[ZS H,if_pos ⟨by rw[l57];exact hk,hv⟩,he];rfl
 refine⟨fun v=>w1 _ _ _ _ (by omega) rfl rfl,fun d s hd=>w _ _ _ _ (by simp) (by rw[List.all_cons,hd];rfl) rfl,fun r k v hv=>w _ _ _ _ (by simp) (by simp only[List.all_cons,hv];rfl) rfl,fun r k=>w _ _ _ _ (by simp) (by simp[Z7]) rfl,fun b=>w1 _ _ _ _ (by omega) (oB b) rfl,fun v hv=>w1 _ _ _ _ (by omega) hv rfl,fun cs hl Xj=>w _ _ _ _ (by omega) Xj ?_,
  fun v hv=>w1 _ _ _ _ (by omega) hv ?_,fun v hv=>w1 _ _ _ _ (by omega) hv ?_,fun v hv=>w1 _ _ _ _ (by omega) hv ?_,fun v hv=>w1 _ _ _ _ (by omega) hv ?_,fun k=>w1 _ _ _ _ (by omega) rfl ?_⟩
 ·unfold UB
  exact WD rfl (by rw[hl,hs])
 all_goals
  unfold UB
  first
   | exact set_tail _ _ _ 0 _ (by rw[hs];rfl)
   | exact set_tail _ _ _ 1 _ (by rw[hs];rfl)
   | exact set_tail _ _ _ 2 _ (by rw[hs];rfl)
   | exact set_tail _ _ _ 3 _ (by rw[hs];rfl)
   | exact set_tail _ _ _ 4 _ (by rw[hs];rfl)
end
section
variable {h:Hp} {wb:Nat} {bad:Nat→Int} {a:WA}
structure uG (h:Hp) (wb:Nat) (bad:Nat→Int) (a:WA):Prop where
 nodes:hc h ⟨wb,0,none⟩=some a.nodes
 Zm:hc h ⟨wb,1,none⟩=some a.Zm
 told:hc h ⟨wb,14,none⟩=some a.told
 out:rd h ⟨wb,2,none⟩ 13=some [.int .i64 0,.bool false,.bool false,.bool false,.bool false,.bool false,.slice none 0 0,.int .i64 (bad 0),.int .i64 (bad 1),.int .i64 (bad 2),.int .i64 (bad 3),.int .i64 (bad 4),a.told]
 Ft:∀v,Z7 v=true→Jx h ⟨wb,1,none⟩ v=some (h.setIfInBounds wb (.cells (Xd bad { a with Zm:=v }).toArray 97))
 xW:∀v,Z7 v=true→Jx h ⟨wb,14,none⟩ v=some (h.setIfInBounds wb (.cells (Xd bad { a with told:=v }).toArray 97))
 ZaS:∀v,Z7 v=true→Jx h ⟨wb,0,none⟩ v=some (h.setIfInBounds wb (.cells (Xd bad { a with nodes:=v }).toArray 97))
theorem YZ (H:h[wb]? = some (.cells (Xd bad a).toArray 97)):uG h wb bad a:=by
 refine⟨Zh H,Zh H,Zh H,Z5 H (by simp[Xd]),fun v hv=>?_,fun v hv=>?_,fun v hv=>?_⟩
 all_goals
  rw[Yz H,if_pos ⟨by simp[Xd],hv⟩]
  rfl
end
theorem Im.isSlice {o:Ow} {n:Nat} {h:Hp} {v:Value} {m:Nat} {cs:List Value} (s:Im o n h v m cs):∃p c,v=.slice p m c:=by
 obtain⟨p,c,h,_⟩:=s.fits;exact⟨p,c,h⟩
theorem Ud {α:Type} (enc:α→List Value) (x:α):Zz enc [x]=enc x:=by simp[Zz]
def cU (t:Tg):Prop:=t=.world∨t=.Zm
theorem UM (T:World) (h:Hp) (o:Ow) (wb nb:Nat) (Z8:Nat→Nat) (me:Nat) (YH:WA) (fl:List Y3) (bad:Nat→Int) (told:List S9) (to:Int) (l:Y3) (w:Value) (d:Uq o h)
  (W:ZG o h wb Z8 YH fl bad told) (IS:hc h ⟨nb,0,none⟩=some (.int .i64 me)) (Wo:nb<h.size) (iv:Wm o h w l.vs) (Yp:fl.length≤1000000000000) :
  Zd Tryz.prog T 102 #[Zo wb,Zo nb,.int .i64 to,.agg (YY l w).toArray] h fun v' h'=>∃o' Xu,Kp cU o h o' h'∧(∀b,b<h.size→o' b=o b)∧ZG o' h' wb Z8 Xu (fl++[⟨l.kind,me,to,l.b,l.v,l.vs⟩]) bad told:=by
 obtain⟨p,c,hw⟩:=iv.isSlice
 have Xj:Z7 w=true:=by rw[hw];rfl
 have Fu:=Za W.ZF.2
 have R0:=YZ W.ZF.2
 refine Zd.Zj (args:=[_,_,_,_]) Tryz.func102 rfl rfl rfl rfl ?_
 unfold Zo YY
 have e1:nb≠h.size:=by omega
 have e2:wb≠h.size:=by omega
 simp -implicitDefEqProofs only[go_sem,↓reduceIte,SD,e1,IS]
 refine VS.z (h.size+1) [7,10] (.p 0 (.p 1 (.p 2 (.p 3 (.q 4 (.q 5 (.s 6 (.w 7 (.p 8 (.p 9 (.w 10 .nil))))))))))) mixed (by kernel_rfl) ?_
 simp -implicitDefEqProofs only[go_sem,↓reduceIte,SD,bE,e1,e2,IS,R0.Zm,Fu]
 obtain⟨h1,YD⟩:=Zy (h.push (.cells (YY ⟨l.kind,me,to,l.b,l.v,l.vs⟩ w).toArray 148):Hp)
 have s1:h1.size=h.size+1:=by rw[YD];simp
 obtain⟨h2,Wl⟩:=Zy (h1.push (.cells (YY ⟨l.kind,me,to,l.b,l.v,l.vs⟩ w).toArray 148):Hp)
 have ee:((h.push (.cells (YY ⟨l.kind,me,to,l.b,l.v,l.vs⟩ w).toArray 148)).push (.cells (YY ⟨l.kind,me,to,l.b,l.v,l.vs⟩ w).toArray 148))=h2:=by rw[Wl,YD]
 unfold YY at ee
 simp only at ee
 refine⟨Zg.push (by simp) _,?_⟩
 rw[ee]
 have k2:Kp (fun _=>False) o h o h2:=by rw[Wl,YD];exact ((Kp.refl d _).push _).push _
 have W2:=W.Zc k2 (fun _ q=>q.elim)
 have jF:=iv.Zc k2
 obtain⟨xs,Qy,RN,Ar⟩:=W2.Zm
 have CD:xs.length=fl.length:=by rw[←Qy,List.length_map]
 have src:Sl 14 h2 (.slice (some ⟨h.size+1,0,none⟩) 1 1) 1 (YY ⟨l.kind,me,to,l.b,l.v,l.vs⟩ w):=by
  rw[Wl,←s1];exact Sl.made (by simp[YY]) 1
 refine X0 (E:=148) (n:=14) (bytes:=128) (k:=1) bN Tryz.underlying95 mh bQ rfl xo RN k2.ZW src (by rw[YY,List.all_eq_true];intro x hx;simp at hx;rcases hx with rfl|rfl|rfl|rfl|rfl|rfl|rfl|rfl|rfl|rfl|rfl|rfl|rfl|rfl<;>first|rfl|exact Xj) (by omega) (by omega) ?_
 intro v' o3 h3 w3 k3 q3
 have b3:=W2.ZF.Zc k3 (by intro q;cases q)
 have R3:=YZ b3.2
 obtain⟨p3,c3,rfl,_⟩:=w3.isSlice
 have hw3:=Za b3.2
 have e3:=R3.Ft (.slice p3 (xs.length+1) c3) rfl
 simp -implicitDefEqProofs only[go_sem,↓reduceIte,e3]
 have k4:Kp cU o h o3 h3:=(k2.mono fun _ q=>q.elim).trans (k3.mono fun u q=>.inr q)
 have k5:=k4.set b3.1 (.inl rfl) (.cells (Xd bad { YH with Zm:=.slice p3 (xs.length+1) c3 }).toArray 97)
 have kk:Kp (fun u=>u=.world) o3 h3 o3 (h3.setIfInBounds wb (.cells (Xd bad { YH with Zm:=.slice p3 (xs.length+1) c3 }).toArray 97)):=(Kp.refl k3.ZW (fun u=>u=.world)).set b3.1 rfl _
 refine⟨o3,{ YH with Zm:=.slice p3 (xs.length+1) c3 },k5,fun b hb=>q3 b (by have:=k2.size;omega),⟨b3.1,Zv b3.2⟩,(W2.nodes.Zc k3 (by intro q;cases q)).Zc kk (by intro q;cases q),⟨xs++[(⟨l.kind,me,to,l.b,l.v,l.vs⟩,w)],?_,?_,fun x hx=>?_⟩,(W2.told.Zc k3 (by intro q;cases q)).Zc kk (by intro q;cases q)⟩
 ·rw[List.map_append,Qy];rfl
 ·have:=w3.Zc kk (by intro q;cases q)
  rw[Ye,Ud,List.length_append]
  exact this
 ·rcases List.mem_append.1 hx with hx|hx
  ·exact ((Ar x hx).Zc k3).Zc kk
  ·have:x=(⟨l.kind,me,to,l.b,l.v,l.vs⟩,w):=by simpa using hx
   subst this
   exact (jF.Zc k3).Zc kk
@[go_sem] theorem ZnV (x:Cm):Yy [some .i64,some .i64,some .i64,some .i64,some .i64] x.C=true:=rfl
@[go_sem] theorem ZaT (x y:Cm):leq x.C y.C=decide (x=y):=by
 obtain⟨a,b,c,d,e⟩:=x
 obtain⟨a',b',c',d',e'⟩:=y
 unfold Qu.C Qt
 rw[Bool.eq_iff_iff]
 simp[leq,ceq,Qu.mk.injEq]
@[go_sem] theorem OF (x:Cm):x.C.length=5:=rfl
@[go_sem] theorem oC (x:Cm):x.C.all Z7=true:=rfl
@[go_sem] theorem Zi8 (x:Cm):Ys [.int .i64 0,.int .i64 0,.int .i64 0,.int .i64 0,.int .i64 0] 0 x.C=x.C:=rfl
theorem JM {h:Hp} {v:Value} {l:List Cm} (s:Ts Qu.C 5 h v l):∃p c,v=.slice p l.length c∧(l≠[]→∃b o,p=some ⟨b,o,none⟩∧b<h.size∧∀i (hi:i<l.length),rd h ⟨b,o+i*5,none⟩ 5=some (l[i]).C):=by
 obtain⟨p,c,hv,hh⟩:=s.open OF (by decide)
 refine⟨p,c,hv,fun Yw=>?_⟩
 obtain⟨b,o,h1,h2,h3⟩:=hh Yw
 exact⟨b,o,h1,h2,fun i hi=>(h3 i hi).rd (by simp[Qu.C,Qt]) rfl⟩
def VP (l:List Cm) (x:Cm):Int:=if x∈l then (l.idxOf x:Int) else -1
theorem oE {l:List Cm} {x:Cm} {i:Nat} (hi:i<l.length) (he:l[i]=x) (hn:∀j (hj:j<l.length),j<i→l[j]≠x):l.idxOf x=i:=by
 have hx:x∈l:=he▸List.getElem_mem hi
 have h1:l.idxOf x<l.length:=List.idxOf_lt_length_of_mem hx
 have h2:l[l.idxOf x]=x:=List.getElem_idxOf h1
 rcases Nat.lt_trichotomy (l.idxOf x) i with h|h|h
 ·exact absurd h2 (hn _ h1 h)
 ·exact h
 ·have:=List.not_of_lt_findIdx (p:=(· == x)) (xs:=l) (i:=i) h
  simp[he]at this
theorem cV {l:List Cm} {x:Cm} {i:Nat} (hi:i<l.length) (he:l[i]=x) (hn:∀j (hj:j<l.length),j<i→l[j]≠x):VP l x=i:=by
 unfold VP
 rw[if_pos (he▸List.getElem_mem hi),oE hi he hn]
theorem HQ {l:List Cm} {x:Cm} (hn:∀j (hj:j<l.length),l[j]≠x):VP l x = -1:=by
 unfold VP
 rw[if_neg fun hm=>by obtain⟨j,hj,he⟩:=List.getElem_of_mem hm;exact hn j hj he]
theorem OG (l:List Cm) (x:Cm):0≤VP l x↔x∈l:=by
 unfold VP
 split
 ·rename_i h;exact⟨fun _=>h,fun _=>by omega⟩
 ·rename_i h;exact⟨fun q=>by omega,fun q=>absurd q h⟩
theorem Ky (T:World) (h:Hp) (v:Value) (l:List Cm) (x:Cm) (s:Ts Qu.C 5 h v l) (hl:l.length≤4611686018427387904) :
  Zd Tryz.prog T 74 #[v,WU x] h fun v' h'=>v'=.int .i64 (VP l x)∧Zg h.size h h':=by
 obtain⟨p,c,rfl,YV⟩:=JM s
 refine Zd.Zj (args:=[_,_]) Tryz.func74 rfl rfl rfl rfl ?_
 unfold WU
 simp -implicitDefEqProofs only[go_sem,↓reduceIte]
 obtain⟨h1,YD⟩:=Zy (h.push (.cells x.C.toArray 49):Hp)
 have b1:Zg h.size h h1:=by rw[YD];exact Zg.push (Nat.le_refl _) _
 have x1:h1[h.size]? = some (.cells x.C.toArray 49):=by rw[YD];exact Zb
 rw[←YD]
 clear YD
 refine VS.ZV (fun F g=>g=h1∧F 0=.slice p l.length c∧F 3=.pointer (some ⟨h.size,0,none⟩)∧F 7=.int .i64 l.length∧∃i:Nat,i≤l.length∧F 8=.int .i64 i∧∀j (hj:j<l.length),j<i→l[j]≠x)
  (fun F _=>l.length-(vi (F 8)).toNat) rfl ⟨rfl,rfl,rfl,rfl,0,by omega,rfl,fun j hj q=>by omega⟩ ?_
 rintro F g ⟨rfl,f0,f3,f7,i,hi,f8,Xb⟩
 by_cases ZD:i<l.length
 ·have ZL:(i:Int)<l.length:=by omega
  obtain⟨bb,oo,rfl,U6,GX⟩:=YV (by intro e;rw[e]at ZD;simp at ZD)
  have r1:rd g ⟨bb,oo+i*5,none⟩ 5=some (l[i]).C:=by rw[JD b1 (by exact U6)];exact GX i ZD
  have r0:rd g ⟨h.size,0,none⟩ 5=some x.C:=Zp x1 rfl
  simp -implicitDefEqProofs only[go_sem,↓reduceIte,f0,f3,f7,f8,ZL]
  refine VS.q mixed (by kernel_rfl) ?_
  simp -implicitDefEqProofs only[go_sem,↓reduceIte,f0,f3,f7,f8,ZL,r1,r0]
  by_cases q:l[i]=x
  ·have e:=cV ZD q Xb
   rw[q]
   simp -implicitDefEqProofs only[go_sem,↓reduceIte,e,b1]
  ·have q':¬x=l[i]:=fun e=>q e.symm
   simp -implicitDefEqProofs only[go_sem,↓reduceIte,q',f0,f3,f7,f8]
   refine⟨⟨rfl,f0,f3,f7,i+1,ZD,rfl,fun j hj Ww=>?_⟩,?_⟩
   ·by_cases e:j=i
    ·subst e;exact q
    ·exact Xb j hj (by omega)
   ·simp only[vi,Zk,↓reduceIte,f8];omega
 ·have YJ:¬(i:Int)<l.length:=by omega
  have e:=HQ (l:=l) (x:=x) fun j hj=>Xb j hj (by omega)
  simp -implicitDefEqProofs only[go_sem,↓reduceIte,f7,f8,YJ,e,b1]
theorem Vk (T:World) (h:Hp) (v:Value) (l:List Cm) (x:Cm) (s:Ts Qu.C 5 h v l) (hl:l.length≤4611686018427387904) :
  Zd Tryz.prog T 76 #[v,WU x] h fun v' h'=>v'=.bool (decide (x∈l))∧Zg h.size h h':=by
 obtain⟨p,c,rfl,YV⟩:=JM s
 refine Zd.Zj (args:=[_,_]) Tryz.func76 rfl rfl rfl rfl ?_
 unfold WU
 simp -implicitDefEqProofs only[go_sem,↓reduceIte]
 refine (Ky T _ _ l x (s.Ya ((Zg.refl _ _).add _)) hl).use ?_
 rintro _ h2 ⟨rfl,b2⟩
 have b:Zg h.size h h2:=((Zg.refl _ _).add _).trans (b2.mono (by simp))
 simp -implicitDefEqProofs only[go_sem,↓reduceIte,OG,b]
theorem HS (T:World) (h:Hp) (b:Nat) (x y:Cm) (hb:h[b]? = some (.cells x.C.toArray 49)) :
  Zd Tryz.prog T 137 #[WU y,Zo b] h fun v' h'=>v'=.bool (decide (y=x))∧Zg h.size h h':=by
 have ZD:=Za hb
 refine Zd.Zj (args:=[_,_]) Tryz.func137 rfl rfl rfl rfl ?_
 unfold WU Zo
 have Yw:b≠h.size:=by omega
 have r0:rd (h.push (.cells y.C.toArray 49)) ⟨h.size,0,none⟩ 5=some y.C:=Zp Zb rfl
 have r1:rd (h.push (.cells y.C.toArray 49)) ⟨b,0,none⟩ 5=some x.C:=Zp (by rw[Zr ZD];exact hb) rfl
 simp -implicitDefEqProofs only[go_sem,↓reduceIte,r0,r1]
def Mm (b:Nat):Value:=Wu 137 [b]
theorem Kz (T:World) (h:Hp) (v:Value) (l:List Cm) (b:Nat) (x:Cm) (s:Ts Qu.C 5 h v l) (hb:h[b]? = some (.cells x.C.toArray 49)) (hl:l.length≤4611686018427387904) :
  Zd Tryz.prog T 139 #[v,Mm b] h fun v' h'=>v'=.int .i64 (VP l x)∧Zg h.size h h':=by
 obtain⟨p,c,rfl,YV⟩:=JM s
 refine Zd.Zj (args:=[_,_]) Tryz.func139 rfl rfl rfl rfl ?_
 have ZD:=Za hb
 unfold Mm Wu
 simp -implicitDefEqProofs only[go_sem,↓reduceIte]
 refine VS.ZV (fun F g=>Zg h.size h g∧F 0=.slice p l.length c∧F 1=Mm b∧F 7=.int .i64 l.length∧∃i:Nat,i≤l.length∧F 8=.int .i64 i∧∀j (hj:j<l.length),j<i→l[j]≠x)
  (fun F _=>l.length-(vi (F 8)).toNat) rfl ⟨Zg.refl _ _,rfl,rfl,rfl,0,by omega,rfl,fun j hj q=>by omega⟩ ?_
 rintro F g ⟨hg,f0,f1,f7,i,hi,f8,Xb⟩
 by_cases ZD:i<l.length
 ·have ZL:(i:Int)<l.length:=by omega
  obtain⟨bb,oo,rfl,U6,GX⟩:=YV (by intro e;rw[e]at ZD;simp at ZD)
  have r1:rd g ⟨bb,oo+i*5,none⟩ 5=some (l[i]).C:=by rw[JD hg (by exact U6)];exact GX i ZD
  unfold Mm Wu at f1
  simp only[List.map]at f1
  simp -implicitDefEqProofs only[go_sem,↓reduceIte,f0,f1,f7,f8,ZL,r1]
  refine (HS T g b x l[i] (hg.get (by omega) hb)).use ?_
  rintro _ g1 ⟨rfl,b1⟩
  have OP:Zg h.size h g1:=hg.trans (b1.mono hg.size)
  by_cases q:l[i]=x
  ·have e:=cV ZD q Xb
   simp -implicitDefEqProofs only[go_sem,↓reduceIte,q,f8,e,OP]
  ·simp -implicitDefEqProofs only[go_sem,↓reduceIte,q,f0,f1,f7,f8]
   refine⟨⟨OP,f0,f1,f7,i+1,ZD,rfl,fun j hj Ww=>?_⟩,?_⟩
   ·by_cases e:j=i
    ·subst e;exact q
    ·exact Xb j hj (by omega)
   ·simp only[vi,Zk,↓reduceIte,f8];omega
 ·have YJ:¬(i:Int)<l.length:=by omega
  have e:=HQ (l:=l) (x:=x) fun j hj=>Xb j hj (by omega)
  simp -implicitDefEqProofs only[go_sem,↓reduceIte,f7,f8,YJ,e,hg]
theorem DO (T:World) (h:Hp) (o:Ow) (t:Tg) (v:Value) (m i:Nat) (cs:List Value) (s:YB o t 49 5 h v m cs) (d:Uq o h) (Xj:cs.all Z7=true) (hi:i<m) (hm:m≤4611686018427387904) :
  Zd Tryz.prog T 140 #[v,.int .i64 i,.int .i64 ((i:Int)+1)] h fun v' h'=>YB o t 49 5 h' v' (m-1) (cs.take (i*5)++cs.drop ((i+1)*5))∧Kp (fun u=>u=t) o h o h':=by
 rcases s with⟨⟨p,rfl⟩,rfl,rfl⟩|⟨b,off,cap,pre,spare,h1,rfl,h3,h4,h5,h6,h7⟩
 ·omega
 refine Zd.Zj (args:=[_,_,_]) Tryz.func140 rfl rfl rfl rfl ?_
 have e1:(i:Int)≤m:=by omega
 have e2:(i:Int)+1≤m:=by omega
 have e3:(m:Int)≤cap:=by omega
 have e4:(i:Int)≠i+1:=by omega
 have e5:((i:Int)+1).toNat=i+1:=by omega
 have e6:(0:Int)≤i+1:=by omega
 have e7:(i:Int)≤i+1:=by omega
 have e8:(i:Int)≤cap:=by omega
 have c0:cap≠0:=by omega
 simp -implicitDefEqProofs only[go_sem,↓reduceIte,e1,e2,e3,e4,e5,e6,e7,e8]
 refine VS.z (h.size) [6] (.p 0 (.p 1 (.p 2 (.p 3 (.p 4 (.p 5 (.w 6 (.p 7 .nil)))))))) mixed (by kernel_rfl) ?_
 simp -implicitDefEqProofs only[go_sem,↓reduceIte,e1,e2,e3,e4,e5,e6,e7,e8,c0]
 have uw:i*5≤m*5:=Nat.mul_le_mul_right _ (by omega)
 have ZnW:(i+1)*5≤m*5:=Nat.mul_le_mul_right _ (by omega)
 have jt:m*5≤cap*5:=Nat.mul_le_mul_right _ h7
 have ZF:h[b]? = some (.cells (pre++(cs.take (i*5)++(cs.drop (i*5)++spare))).toArray 49 (0,0)):=by
  rw[←List.append_assoc (List.take _ _),List.take_append_drop];exact h3
 have src:Sl 5 h (.slice (if cap=i+1 then some ⟨b,off,none⟩ else some ⟨b,off+(i+1)*5,none⟩) (m-(i+1)) (cap-(i+1))) (m-(i+1)) (cs.drop ((i+1)*5)):=by
  have:=(YB.tail (k:=i+1) (.inr ⟨b,off,cap,pre,spare,h1,rfl,h3,h4,h5,h6,h7⟩:YB o t 49 5 h (.slice (some ⟨b,off,none⟩) m cap) m cs) (by omega)).sl
  rw[Option.map_some,YX]at this
  exact this
 have nl:(cs.drop ((i+1)*5)).length=(m-(i+1))*5:=by rw[List.length_drop,h5,Nat.sub_mul]
 refine LN (E:=49) (n:=5) (m:=i) (k:=m-(i+1)) (cs:=cs.take (i*5)) EB Tryz.underlying37 zF mg ZF h4.symm (by rw[List.length_take];omega) src (List.all_eq_true.2 fun x hx=>List.all_eq_true.1 Xj x (List.mem_of_mem_drop hx)) (by omega) (by rw[List.length_append,List.length_drop,h5,←Nat.sub_mul];have:(m-(i+1))*5≤(m-i)*5:=Nat.mul_le_mul_right _ (by omega);omega) ?_
 obtain⟨g,hg⟩:=Zy (h.setIfInBounds b (.cells (pre++((cs.take (i*5)++cs.drop ((i+1)*5))++(cs.drop (i*5)++spare).drop ((m-(i+1))*5))).toArray 49 (0,0)):Hp)
 rw[←hg]
 have kg:Kp (fun u=>u=t) o h o g:=by rw[hg];exact (Kp.refl d (fun u=>u=t)).set h1 rfl _
 have gb:=Zv (o:=.cells (pre++((cs.take (i*5)++cs.drop ((i+1)*5))++(cs.drop (i*5)++spare).drop ((m-(i+1))*5))).toArray 49 (0,0)) h3
 rw[←hg]at gb
 have e9:i+(m-(i+1))=m-1:=by omega
 have f1:((m-1:Nat):Int)≤m:=by omega
 have f2:(0:Int)≤((m-1:Nat):Int):=by omega
 have f3:cap≠m-1:=by omega
 have f4:(((m-1:Nat):Int)).toNat=m-1:=by omega
 have f5:(0:Int)≤m:=by omega
 have f6:((m-1:Nat):Int)≤cap:=by omega
 rw[e9]
 simp -implicitDefEqProofs only[go_sem,↓reduceIte,e3,f1,f2,f3,f4,f5,f6]
 have tl:((cs.drop (i*5)++spare).drop ((m-(i+1))*5)).length=5+spare.length:=by
  rw[List.length_drop,List.length_append,List.length_drop,h5]
  have:(m-(i+1))*5+5=m*5-i*5:=by rw[←Nat.sub_mul,←Nat.succ_mul];congr 1;omega
  omega
 obtain⟨tail,ht⟩:=Zy ((cs.drop (i*5)++spare).drop ((m-(i+1))*5))
 rw[←ht]at gb tl
 obtain⟨body,Ai⟩:=Zy (cs.take (i*5)++cs.drop ((i+1)*5))
 have bl:body.length=(m-1)*5:=by
  rw[Ai,List.length_append,List.length_take,nl,h5,Nat.min_eq_left uw,←Nat.add_mul];congr 1
 rw[←Ai]at gb ⊢
 have xX:g[b]? = some (.cells ((pre++body)++(tail.take 5++tail.drop 5)).toArray 49 (0,0)):=by
  rw[List.take_append_drop,List.append_assoc];exact gb
 have e10:m-(m-1)=1:=by omega
 rw[e10]
 refine OZ (E:=49) (n:=5) (k:=1) EB mg rfl rfl xX (by rw[List.length_append,h4,bl]) (by rw[List.length_take];omega) ?_
 intro new AU
 simp -implicitDefEqProofs only[go_sem,↓reduceIte]
 have kk:=kg.set h1 rfl (.cells ((pre++body)++(new++tail.drop 5)).toArray 49 (0,0))
 refine⟨.inr ⟨b,off,cap,pre,new++tail.drop 5,h1,rfl,?_,h4,bl,?_,by omega⟩,kk⟩
 ·rw[Zv xX,List.append_assoc]
 ·rw[List.length_append,AU,List.length_take,List.length_drop,tl,h6]
  have:(cap-(m-1))*5=(cap-m)*5+5:=by rw[←Nat.succ_mul];congr 1;omega
  omega
theorem DP (T:World) (h:Hp) (o:Ow) (t:Tg) (v:Value) (m i:Nat) (cs:List Value) (s:YB o t 148 14 h v m cs) (d:Uq o h) (Xj:cs.all Z7=true) (hi:i<m) (hm:m≤4611686018427387904) :
  Zd Tryz.prog T 80 #[v,.int .i64 i,.int .i64 ((i:Int)+1)] h fun v' h'=>YB o t 148 14 h' v' (m-1) (cs.take (i*14)++cs.drop ((i+1)*14))∧Kp (fun u=>u=t) o h o h':=by
 rcases s with⟨⟨p,rfl⟩,rfl,rfl⟩|⟨b,off,cap,pre,spare,h1,rfl,h3,h4,h5,h6,h7⟩
 ·omega
 refine Zd.Zj (args:=[_,_,_]) Tryz.func80 rfl rfl rfl rfl ?_
 have e1:(i:Int)≤m:=by omega
 have e2:(i:Int)+1≤m:=by omega
 have e3:(m:Int)≤cap:=by omega
 have e4:(i:Int)≠i+1:=by omega
 have e5:((i:Int)+1).toNat=i+1:=by omega
 have e6:(0:Int)≤i+1:=by omega
 have e7:(i:Int)≤i+1:=by omega
 have e8:(i:Int)≤cap:=by omega
 have c0:cap≠0:=by omega
 simp -implicitDefEqProofs only[go_sem,↓reduceIte,e1,e2,e3,e4,e5,e6,e7,e8]
 refine VS.z (h.size) [6] (.p 0 (.p 1 (.p 2 (.p 3 (.p 4 (.p 5 (.w 6 (.p 7 .nil)))))))) mixed (by kernel_rfl) ?_
 simp -implicitDefEqProofs only[go_sem,↓reduceIte,e1,e2,e3,e4,e5,e6,e7,e8,c0]
 have uw:i*14≤m*14:=Nat.mul_le_mul_right _ (by omega)
 have ZnW:(i+1)*14≤m*14:=Nat.mul_le_mul_right _ (by omega)
 have jt:m*14≤cap*14:=Nat.mul_le_mul_right _ h7
 have ZF:h[b]? = some (.cells (pre++(cs.take (i*14)++(cs.drop (i*14)++spare))).toArray 148 (0,0)):=by
  rw[←List.append_assoc (List.take _ _),List.take_append_drop];exact h3
 have src:Sl 14 h (.slice (if cap=i+1 then some ⟨b,off,none⟩ else some ⟨b,off+(i+1)*14,none⟩) (m-(i+1)) (cap-(i+1))) (m-(i+1)) (cs.drop ((i+1)*14)):=by
  have:=(YB.tail (k:=i+1) (.inr ⟨b,off,cap,pre,spare,h1,rfl,h3,h4,h5,h6,h7⟩:YB o t 148 14 h (.slice (some ⟨b,off,none⟩) m cap) m cs) (by omega)).sl
  rw[Option.map_some,YX]at this
  exact this
 have nl:(cs.drop ((i+1)*14)).length=(m-(i+1))*14:=by rw[List.length_drop,h5,Nat.sub_mul]
 refine LN (E:=148) (n:=14) (m:=i) (k:=m-(i+1)) (cs:=cs.take (i*14)) bN Tryz.underlying95 mh bQ ZF h4.symm (by rw[List.length_take];omega) src (List.all_eq_true.2 fun x hx=>List.all_eq_true.1 Xj x (List.mem_of_mem_drop hx)) (by omega) (by rw[List.length_append,List.length_drop,h5,←Nat.sub_mul];have:(m-(i+1))*14≤(m-i)*14:=Nat.mul_le_mul_right _ (by omega);omega) ?_
 obtain⟨g,hg⟩:=Zy (h.setIfInBounds b (.cells (pre++((cs.take (i*14)++cs.drop ((i+1)*14))++(cs.drop (i*14)++spare).drop ((m-(i+1))*14))).toArray 148 (0,0)):Hp)
 rw[←hg]
 have kg:Kp (fun u=>u=t) o h o g:=by rw[hg];exact (Kp.refl d (fun u=>u=t)).set h1 rfl _
 have gb:=Zv (o:=.cells (pre++((cs.take (i*14)++cs.drop ((i+1)*14))++(cs.drop (i*14)++spare).drop ((m-(i+1))*14))).toArray 148 (0,0)) h3
 rw[←hg]at gb
 have e9:i+(m-(i+1))=m-1:=by omega
 have f1:((m-1:Nat):Int)≤m:=by omega
 have f2:(0:Int)≤((m-1:Nat):Int):=by omega
 have f3:cap≠m-1:=by omega
 have f4:(((m-1:Nat):Int)).toNat=m-1:=by omega
 have f5:(0:Int)≤m:=by omega
 have f6:((m-1:Nat):Int)≤cap:=by omega
 rw[e9]
 simp -implicitDefEqProofs only[go_sem,↓reduceIte,e3,f1,f2,f3,f4,f5,f6]
 have tl:((cs.drop (i*14)++spare).drop ((m-(i+1))*14)).length=14+spare.length:=by
  rw[List.length_drop,List.length_append,List.length_drop,h5]
  have:(m-(i+1))*14+14=m*14-i*14:=by rw[←Nat.sub_mul,←Nat.succ_mul];congr 1;omega
  omega
 obtain⟨tail,ht⟩:=Zy ((cs.drop (i*14)++spare).drop ((m-(i+1))*14))
 rw[←ht]at gb tl
 obtain⟨body,Ai⟩:=Zy (cs.take (i*14)++cs.drop ((i+1)*14))
 have bl:body.length=(m-1)*14:=by
  rw[Ai,List.length_append,List.length_take,nl,h5,Nat.min_eq_left uw,←Nat.add_mul];congr 1
 rw[←Ai]at gb ⊢
 have xX:g[b]? = some (.cells ((pre++body)++(tail.take 14++tail.drop 14)).toArray 148 (0,0)):=by
  rw[List.take_append_drop,List.append_assoc];exact gb
 have e10:m-(m-1)=1:=by omega
 rw[e10]
 refine OZ (E:=148) (n:=14) (k:=1) bN bQ rfl rfl xX (by rw[List.length_append,h4,bl]) (by rw[List.length_take];omega) ?_
 intro new AU
 simp -implicitDefEqProofs only[go_sem,↓reduceIte]
 have kk:=kg.set h1 rfl (.cells ((pre++body)++(new++tail.drop 14)).toArray 148 (0,0))
 refine⟨.inr ⟨b,off,cap,pre,new++tail.drop 14,h1,rfl,?_,h4,bl,?_,by omega⟩,kk⟩
 ·rw[Zv xX,List.append_assoc]
 ·rw[List.length_append,AU,List.length_take,List.length_drop,tl,h6]
  have:(cap-(m-1))*14=(cap-m)*14+14:=by rw[←Nat.succ_mul];congr 1;omega
  omega
section
variable {α:Type} {enc:α→List Value} {n:Nat}
theorem SV (QR:∀x,(enc x).length=n) (l:List α) (i:Nat) (hi:i≤l.length):(Zz enc l).take (i*n)=Zz enc (l.take i):=by
 have h1:(Zz enc (l.take i)).length=i*n:=by rw[JC QR,List.length_take,Nat.min_eq_left hi]
 have h2:Zz enc l=Zz enc (l.take i)++Zz enc (l.drop i):=by rw[←Ye,List.take_append_drop]
 rw[h2,←h1,List.take_left]
theorem VQ (QR:∀x,(enc x).length=n) (l:List α) (i:Nat) (hi:i≤l.length):(Zz enc l).drop (i*n)=Zz enc (l.drop i):=by
 have h1:(Zz enc (l.take i)).length=i*n:=by rw[JC QR,List.length_take,Nat.min_eq_left hi]
 have h2:Zz enc l=Zz enc (l.take i)++Zz enc (l.drop i):=by rw[←Ye,List.take_append_drop]
 rw[h2,←h1,List.drop_left]
theorem oF (QR:∀x,(enc x).length=n) (l:List α) (i:Nat) (hi:i<l.length) (y:α):Zz enc (l.set i y)=(Zz enc l).take (i*n)++(enc y++(Zz enc l).drop ((i+1)*n)):=by
 rw[List.set_eq_take_append_cons_drop,if_pos hi,Ye,SV QR _ _ (by omega),VQ QR _ _ (by omega)]
 rfl
end
theorem uH (l:List Cm):(Zz Qu.C l).all Z7=true:=by
 induction l with
 | nil=>rfl
 | cons x l ih=>rw[Zz,List.all_append,ih];rfl
theorem Vl {l:List Cm} {j:Nat} (hj:j<l.length) (q:Cm→Bool):(l.take (j+1)).filter q=(l.take j).filter q++if q l[j]=true then [l[j]] else []:=by
 rw[Yg l j hj,List.filter_append]
 congr 1
 cases h:q l[j]<;>simp[h]
theorem DQ {l:List Cm} {x:Cm} {i:Nat} (h:VP l x=i):i<l.length∧(l.take i).filter (fun y=>decide (y≠x))=l.take i∧l[i]? = some x:=by
 unfold VP at h
 split at h
 ·rename_i hm
  have hi:l.idxOf x=i:=by omega
  have h1:l.idxOf x<l.length:=List.idxOf_lt_length_of_mem hm
  refine⟨by omega,?_,?_⟩
  ·rw[List.filter_eq_self]
   intro y hy
   obtain⟨k,hk,rfl⟩:=List.getElem_of_mem hy
   rw[List.length_take]at hk
   rw[List.getElem_take]
   have:=List.not_of_lt_findIdx (p:=(· == x)) (xs:=l) (i:=k) (show k<List.findIdx (· == x) l by rw[show List.findIdx (· == x) l=l.idxOf x from rfl];omega)
   simpa using this
  ·rw[←hi,List.getElem?_eq_getElem h1,List.getElem_idxOf h1]
 ·omega
theorem DR (T:World) (h:Hp) (o:Ow) (t:Tg) (v:Value) (l:List Cm) (bx:Nat) (x:Cm) (s:QI o t h v l) (d:Uq o h) (hb:ZN o h bx (.cells x.C.toArray 49)) (hl:l.length≤4611686018427387904) :
  Zd Tryz.prog T 138 #[v,Mm bx] h fun v' h'=>QI o t h' v' (l.filter fun y=>decide (y≠x))∧Kp (fun u=>u=t) o h o h':=by
 have ts:Ts Qu.C 5 h v l:=⟨s.sl⟩
 obtain⟨p,c,rfl,YV⟩:=JM ts
 refine Zd.Zj (args:=[_,_]) Tryz.func138 rfl rfl rfl rfl ?_
 unfold Mm Wu
 simp -implicitDefEqProofs only[go_sem,↓reduceIte]
 refine (Kz T h _ l bx x ts hb.2 hl).use ?_
 rintro _ h1 ⟨rfl,b1⟩
 have k1:Kp (fun u=>u=t) o h o h1:=Kp.LM d b1 _
 by_cases hm:x∈l
 case neg=>
  have e:VP l x = -1:=by unfold VP;rw[if_neg hm]
  have e2:(l.filter fun y=>decide (y≠x))=l:=by
   rw[List.filter_eq_self];intro y hy;simpa using fun q=>hm (by rw[←q];exact hy)
  simp -implicitDefEqProofs only[go_sem,↓reduceIte,e,e2]
  exact⟨QI.Zc (S:=fun _=>False) s (Kp.LM d b1 _) id,k1⟩
 obtain⟨i0,TJ⟩:∃i:Nat,VP l x=i:=⟨l.idxOf x,by unfold VP;rw[if_pos hm]⟩
 obtain⟨hi,hf,hx⟩:=DQ TJ
 rcases s with⟨⟨q,h1'⟩,h2',h3'⟩|⟨b,off,cap,pre,spare,o1,hv,o3,o4,o5,o6,o7⟩
 ·omega
 simp only[Value.slice.injEq]at hv
 obtain⟨rfl,_,rfl⟩:=hv
 have i1:¬((i0:Nat):Int) = -1:=by omega
 simp -implicitDefEqProofs only[go_sem,↓reduceIte,TJ,i1]
 obtain⟨q,hq⟩:∃q:Cm→Bool,q=fun y=>decide ¬y=x:=⟨_,rfl⟩
 have hq':(fun y=>decide (y≠x))=q:=by rw[hq]
 have hqx:∀y,q y=decide ¬y=x:=fun y=>by rw[hq]
 rw[hq']at hf
 rw[←hq]
 have CG:l[i0]=x:=by rw[List.getElem?_eq_getElem hi]at hx;exact Option.some.inj hx
 have sl:l.length≤c:=o7
 have el:∀L:List Cm,(Zz Qu.C L).length=L.length*5:=fun L=>JC (n:=5) OF L
 refine VS.ZV (fun F g=>F 0=.slice (some ⟨b,off,none⟩) l.length c∧F 1=Mm bx∧Kp (fun u=>u=t) o h o g∧∃(i j:Nat) (L:List Cm),F 5=.int .i64 i∧F 6=.int .i64 j∧j≤l.length∧i<j∧L.length=l.length∧L.take i=(l.take j).filter q∧L.drop j=l.drop j∧i=((l.take j).filter q).length ∧
   g[b]? = some (.cells (pre++(Zz Qu.C L++spare)).toArray 49 (0,0)))
  (fun F _=>l.length-(vi (F 6)).toNat) rfl ⟨rfl,rfl,k1,i0,i0+1,l,rfl,?_,by omega,by omega,rfl,?_,rfl,?_,b1.get (Za o3) o3⟩ ?_
 ·show Value.int .i64 _=_
  congr 1
 ·rw[Vl hi,hf,CG,hqx,if_neg (by simp),List.append_nil]
 ·rw[Vl hi,hf,CG,hqx,if_neg (by simp),List.append_nil,List.length_take];omega
 rintro F g ⟨f0,f1,kg,i,j,L,f5,f6,hj,jq,hL,xF,hLj,FV,gb⟩
 unfold Mm Wu at f1
 simp only[List.map]at f1
 have gl:=Za gb
 by_cases ZD:j<l.length
 ·have ZL:(j:Int)<l.length:=by omega
  have hjL:L[j]? = l[j]?:=by
   have:=congrArg (fun z=>z[0]?) hLj
   simpa using this
  have CS:j<L.length:=by omega
  have hjE:L[j]=l[j]:=by
   rw[List.getElem?_eq_getElem CS,List.getElem?_eq_getElem ZD]at hjL
   exact Option.some.inj hjL
  have ow:YB o t 49 5 g (.slice (some ⟨b,off,none⟩) L.length c) L.length (Zz Qu.C L):=.inr ⟨b,off,c,pre,spare,o1,rfl,gb,o4,el L,by rw[hL];exact o6,by omega⟩
  obtain⟨p2,c2,nz,Ha⟩:=JM (⟨ow.sl⟩:Ts Qu.C 5 g _ L)
  obtain⟨bb,oo,lQ,_,hr⟩:=Ha (by intro e;rw[e]at CS;simp at CS)
  subst lQ
  simp only[Value.slice.injEq,Option.some.injEq,Addr.mk.injEq]at nz
  obtain⟨⟨rfl,rfl,_⟩,_,rfl⟩:=nz
  have r1:rd g ⟨b,off+j*5,none⟩ 5=some (l[j]).C:=by rw[hr j CS,hjE]
  simp -implicitDefEqProofs only[go_sem,↓reduceIte,f0,f1,f5,f6,ZL,r1]
  have bxg:=hb.Zc kg
  have bxl:bx≠g.size:=by have:=Za bxg.2;omega
  refine (HS T _ bx x l[j] (by rw[Zr (Za bxg.2)];exact bxg.2)).use ?_
  rintro _ g1 ⟨rfl,b1'⟩
  have bp:Zg g.size g g1:=(Zg.push (Nat.le_refl _) _).trans (b1'.mono (by simp))
  have kg1:Kp (fun u=>u=t) o h o g1:=kg.Ya bp
  have gb1:=bp.get gl gb
  have Zn0:g1[g.size]? = some (.cells (l[j]).C.toArray 49):=b1'.get (by simp) Zb
  have yr:rd g1 ⟨g.size,0,none⟩ 5=some (l[j]).C:=Zp Zn0 rfl
  have fs:=Vl ZD q
  have hd1:∀L':List Cm,L'.drop j=l.drop j→L'.drop (j+1)=l.drop (j+1):=fun L' h=>by
   rw[←List.drop_drop,←List.drop_drop,h]
  by_cases hxj:l[j]=x
  ·have fs':(l.take (j+1)).filter q=(l.take j).filter q:=by rw[fs,hqx,if_neg (by simp[hxj]),List.append_nil]
   simp -implicitDefEqProofs only[go_sem,↓reduceIte,hxj,f0,f1,f5,f6]
   refine⟨⟨f0,f1,kg1,i,j+1,L,f5,rfl,ZD,by omega,hL,by rw[fs'];exact xF,hd1 L hLj,by rw[fs'];exact FV,gb1⟩,?_⟩
   simp only[vi,Zk,↓reduceIte,f6];omega
  ·have fs':(l.take (j+1)).filter q=(l.take j).filter q++[l[j]]:=by rw[fs,hqx,if_pos (by simp[hxj])]
   have i0':(0:Int)≤i:=by omega
   have i1':(i:Int)<l.length:=by omega
   have hiL:i<L.length:=by omega
   have w1:=ZS gb1 (off+i*5) (l[j]).C
   have eL:Ys (pre++(Zz Qu.C L++spare)) (off+i*5) (l[j]).C=pre++(Zz Qu.C (L.set i l[j])++spare):=by
    have e1:Zz Qu.C L=(Zz Qu.C L).take (i*5)++(((Zz Qu.C L).drop (i*5)).take 5++(Zz Qu.C L).drop ((i+1)*5)):=by
     have:(Zz Qu.C L).drop ((i+1)*5)=((Zz Qu.C L).drop (i*5)).drop 5:=by rw[List.drop_drop];congr 1;omega
     rw[this,List.take_append_drop,List.take_append_drop]
    have hle:(i+1)*5≤(Zz Qu.C L).length:=by rw[el];omega
    rw[oF OF L i hiL]
    conv=>lhs;rw[e1]
    have e2:pre++(((Zz Qu.C L).take (i*5)++(((Zz Qu.C L).drop (i*5)).take 5++(Zz Qu.C L).drop ((i+1)*5)))++spare)=(pre++(Zz Qu.C L).take (i*5))++(((Zz Qu.C L).drop (i*5)).take 5++((Zz Qu.C L).drop ((i+1)*5)++spare)):=by simp only[List.append_assoc]
    rw[e2,WD (by rw[List.length_append,o4,List.length_take];omega) (by rw[List.length_take,List.length_drop,OF];omega)]
    simp only[List.append_assoc]
   rw[eL,if_pos ⟨by rw[List.length_append,List.length_append,o4,el,OF];omega,oC _⟩]at w1
   simp -implicitDefEqProofs only[go_sem,↓reduceIte,hxj,f0,f1,f5,f6,yr,i0',i1',w1]
   refine⟨⟨f0,f1,kg1.set o1 rfl _,i+1,j+1,L.set i l[j],rfl,rfl,ZD,by omega,by rw[List.length_set,hL],?_,?_,?_,Zv gb1⟩,?_⟩
   ·rw[Yg _ i (by rw[List.length_set];exact hiL),List.take_set_of_le (Nat.le_refl _),List.getElem_set_self,fs',←xF]
   ·refine hd1 _ ?_
    rw[←hLj,List.drop_set_of_lt (by omega)]
   ·rw[fs',List.length_append,←FV];rfl
   ·simp only[vi,Zk,↓reduceIte,f6];omega
 ·have YJ:¬(j:Int)<l.length:=by omega
  obtain rfl:j=l.length:=by omega
  rw[List.take_length]at xF FV
  have hiL:i≤L.length:=by omega
  have xX:g[b]? = some (.cells ((pre++Zz Qu.C (L.take i))++(Zz Qu.C (L.drop i)++spare)).toArray 49 (0,0)):=by
   rw[←SV OF L i hiL,←VQ OF L i hiL]
   have:(pre++(Zz Qu.C L).take (i*5))++((Zz Qu.C L).drop (i*5)++spare)=pre++(Zz Qu.C L++spare):=by
    rw[List.append_assoc,←List.append_assoc (List.take _ _),List.take_append_drop]
   rw[this];exact gb
  have tl:(Zz Qu.C (L.take i)).length=i*5:=by rw[el,List.length_take,Nat.min_eq_left hiL]
  simp -implicitDefEqProofs only[go_sem,↓reduceIte,f0,f5,f6,YJ]
  refine OZ (E:=49) (n:=5) (k:=l.length-i) EB mg rfl rfl xX (by rw[List.length_append,o4,tl]) (by rw[el,List.length_drop,hL]) ?_
  intro new AU
  have i2:(i:Int)≤c:=by omega
  simp -implicitDefEqProofs only[go_sem,↓reduceIte,i2,f0,f5]
  have e:(Zz Qu.C (L.take i))=Zz Qu.C (l.filter q):=by rw[xF]
  refine⟨.inr ⟨b,off,c,pre,new++spare,o1,by rw[←FV],?_,o4,el _,?_,by omega⟩,kg.set o1 rfl _⟩
  ·rw[Zv xX,←e,List.append_assoc]
  ·rw[List.length_append,AU,el,List.length_drop,o6,hL,←FV,←Nat.add_mul];congr 1;omega
@[go_sem] theorem Zn1 (x:Vt):Yy [some .i64,some .i64,some .i64,some .i64,some .i64,some .i64,some .i64,some .i64] (Zn x)=true:=rfl
@[go_sem] theorem Zn2 (x y:Vt):leq (Zn x) (Zn y)=decide (x=y):=by
 obtain⟨a,⟨b,c⟩,d,e,f,g,k⟩:=x
 obtain⟨a',⟨b',c'⟩,d',e',f',g',k'⟩:=y
 unfold Zn
 rw[Bool.eq_iff_iff]
 simp[leq,ceq,Vt.mk.injEq,and_assoc]
@[go_sem] theorem Zjc (x:YG):Yy [some .i64,some .i64] (Je x)=true:=rfl
@[go_sem] theorem Zjd (x y:YG):leq (Je x) (Je y)=decide (x=y):=by
 obtain⟨a,b⟩:=x
 obtain⟨a',b'⟩:=y
 unfold Je
 rw[Bool.eq_iff_iff]
 simp[leq,ceq,YG.mk.injEq]
@[go_sem] theorem Zfz (x:Vt):(Zn x).length=8:=rfl
theorem KA {h:Hp} {v:Value} {l:List Vt} (s:Ts Zn 8 h v l):∃p c,v=.slice p l.length c∧(l≠[]→∃b o,p=some ⟨b,o,none⟩∧b<h.size∧∀i (hi:i<l.length),rd h ⟨b,o+i*8,none⟩ 8=some (Zn l[i])):=by
 obtain⟨p,c,hv,hh⟩:=s.open Zfz (by decide)
 refine⟨p,c,hv,fun Yw=>?_⟩
 obtain⟨b,o,h1,h2,h3⟩:=hh Yw
 exact⟨b,o,h1,h2,fun i hi=>(h3 i hi).rd (by simp[Zn]) rfl⟩
theorem ab (T:World) (h:Hp) (v:Value) (l:List Vt) (x:Vt) (s:Ts Zn 8 h v l) (hl:l.length≤4611686018427387904) :
  Zd Tryz.prog T 141 #[v,.agg (Zn x).toArray] h fun v' h'=>(∃i:Int,v'=.int .i64 i∧(0≤i↔x∈l))∧Zg h.size h h':=by
 obtain⟨p,c,rfl,YV⟩:=KA s
 refine Zd.Zj (args:=[_,_]) Tryz.func141 rfl rfl rfl rfl ?_
 simp -implicitDefEqProofs only[go_sem,↓reduceIte]
 obtain⟨h1,YD⟩:=Zy (h.push (.cells (Zn x).toArray 146):Hp)
 have b1:Zg h.size h h1:=by rw[YD];exact Zg.push (Nat.le_refl _) _
 have x1:h1[h.size]? = some (.cells (Zn x).toArray 146):=by rw[YD];exact Zb
 rw[←YD]
 clear YD
 refine VS.ZV (fun F g=>g=h1∧F 0=.slice p l.length c∧F 3=.pointer (some ⟨h.size,0,none⟩)∧F 7=.int .i64 l.length∧∃i:Nat,i≤l.length∧F 8=.int .i64 i∧∀j (hj:j<l.length),j<i→l[j]≠x)
  (fun F _=>l.length-(vi (F 8)).toNat) rfl ⟨rfl,rfl,rfl,rfl,0,by omega,rfl,fun j hj q=>by omega⟩ ?_
 rintro F g ⟨rfl,f0,f3,f7,i,hi,f8,Xb⟩
 by_cases ZD:i<l.length
 ·have ZL:(i:Int)<l.length:=by omega
  obtain⟨bb,oo,rfl,U6,GX⟩:=YV (by intro e;rw[e]at ZD;simp at ZD)
  have r1:rd g ⟨bb,oo+i*8,none⟩ 8=some (Zn l[i]):=by rw[JD b1 (by exact U6)];exact GX i ZD
  have r0:rd g ⟨h.size,0,none⟩ 8=some (Zn x):=Zp x1 rfl
  simp -implicitDefEqProofs only[go_sem,↓reduceIte,f0,f3,f7,f8,ZL]
  refine VS.q mixed (by kernel_rfl) ?_
  simp -implicitDefEqProofs only[go_sem,↓reduceIte,f0,f3,f7,f8,ZL,r1,r0]
  by_cases q:l[i]=x
  ·rw[q]
   simp -implicitDefEqProofs only[go_sem,↓reduceIte,b1]
   exact⟨_,rfl,fun _=>q▸List.getElem_mem ZD,fun _=>by omega⟩
  ·have q':¬x=l[i]:=fun e=>q e.symm
   simp -implicitDefEqProofs only[go_sem,↓reduceIte,q',f0,f3,f7,f8]
   refine⟨⟨rfl,f0,f3,f7,i+1,ZD,rfl,fun j hj Ww=>?_⟩,?_⟩
   ·by_cases e:j=i
    ·subst e;exact q
    ·exact Xb j hj (by omega)
   ·simp only[vi,Zk,↓reduceIte,f8];omega
 ·have YJ:¬(i:Int)<l.length:=by omega
  have hx:x ∉ l:=fun hm=>by obtain⟨j,hj,he⟩:=List.getElem_of_mem hm;exact Xb j hj (by omega) he
  simp -implicitDefEqProofs only[go_sem,↓reduceIte,f7,f8,YJ,b1,hx]
  exact⟨-1,rfl,fun q=>by omega,fun q=>q.elim⟩
theorem IT (T:World) (h:Hp) (v:Value) (l:List Vt) (x:Vt) (s:Ts Zn 8 h v l) (hl:l.length≤4611686018427387904) :
  Zd Tryz.prog T 116 #[v,.agg (Zn x).toArray] h fun v' h'=>v'=.bool (decide (x∈l))∧Zg h.size h h':=by
 obtain⟨p,c,rfl,YV⟩:=KA s
 refine Zd.Zj (args:=[_,_]) Tryz.func116 rfl rfl rfl rfl ?_
 simp -implicitDefEqProofs only[go_sem,↓reduceIte]
 refine (ab T _ _ l x (s.Ya ((Zg.refl _ _).add _)) hl).use ?_
 rintro _ h2 ⟨⟨i,rfl,hi⟩,b2⟩
 have b:Zg h.size h h2:=((Zg.refl _ _).add _).trans (b2.mono (by simp))
 simp -implicitDefEqProofs only[go_sem,↓reduceIte,hi,b]
theorem OH (T:World) (h:Hp) (a b:YG):Zd Tryz.prog T 100 #[.agg (Je a).toArray,.agg (Je b).toArray] h fun v' h'=>v'=.bool (decide (below b a))∧Zg h.size h h':=by
 refine Zd.Zj (args:=[_,_]) Tryz.func100 rfl rfl rfl rfl ?_
 unfold Je
 by_cases q1:b.r<a.r
 ·have e:below b a:=.inl q1
  simp -implicitDefEqProofs only[go_sem,↓reduceIte,q1,e]
  (repeat' (first|exact Zg.refl _ _|assumption|refine Zg.add ?_ _|refine Zg.Zl ?_ (by first|omega|(simp;omega)) _|refine Zg.trans (by assumption) ?_))
 ·by_cases q2:a.r=b.r
  ·by_cases q3:b.n<a.n
   ·have e:below b a:=.inr ⟨q2.symm,q3⟩
    simp -implicitDefEqProofs only[go_sem,↓reduceIte,q1,q2,q3,e]
    (repeat' (first|exact Zg.refl _ _|assumption|refine Zg.add ?_ _|refine Zg.Zl ?_ (by first|omega|(simp;omega)) _|refine Zg.trans (by assumption) ?_))
   ·have e:¬below b a:=fun h=>by rcases h with h|⟨_,h⟩<;>omega
    simp -implicitDefEqProofs only[go_sem,↓reduceIte,q1,q2,q3,e]
    (repeat' (first|exact Zg.refl _ _|assumption|refine Zg.add ?_ _|refine Zg.Zl ?_ (by first|omega|(simp;omega)) _|refine Zg.trans (by assumption) ?_))
  ·have e:¬below b a:=fun h=>by rcases h with h|⟨h,_⟩<;>omega
   simp -implicitDefEqProofs only[go_sem,↓reduceIte,q1,q2,e]
   (repeat' (first|exact Zg.refl _ _|assumption|refine Zg.add ?_ _|refine Zg.Zl ?_ (by first|omega|(simp;omega)) _|refine Zg.trans (by assumption) ?_))
theorem MZ (T:World) (h:Hp) (n:Nat) (hn:n≤1000000000000):Zd Tryz.prog T 113 #[.int .i64 n] h fun v' h'=>v'=.bool (decide (5<2*n))∧h'=h:=by
 refine Zd.Zj (args:=[_]) Tryz.func113 rfl rfl rfl rfl ?_
 have e:((5:Int)<2*(n:Int))=(5<2*n):=by apply propext;omega
 simp -implicitDefEqProofs only[go_sem,↓reduceIte,e]
theorem QI.ts {o:Ow} {t:Tg} {h:Hp} {v:Value} {l:List Cm} (s:QI o t h v l):Ts Qu.C 5 h v l:=⟨YB.sl s⟩
theorem No {T:World} {K:Value→Hp→Prop} {ty:TypeId} {o:Ow} {t:Tg} {h:Hp} {v:Value} {l:List Cm} {x:Cm} {bx:Nat} {cb:Array Bool} (s:QI o t h v l) (d:Uq o h) (hb:h[bx]? = some (.cells x.C.toArray 49)) (hr:l.length≤1000000000000)
  (H:∀p c o' h',QI o' t h' (.slice p (l.length+1) c) (l++[x])→Kp (fun u=>u=t) o h o' h'→K (.slice p (l.length+1) c) h') :
  TL Tryz.prog T .append #[37,37] ty cb [v,.slice (some ⟨bx,0,none⟩) 1 1] K h:=by
 have src:Sl 5 h (.slice (some ⟨bx,0,none⟩) 1 1) 1 x.C:=⟨_,1,rfl,rfl,fun _=>⟨bx,0,rfl,fun i hi=>by
  rw[Zh hb,Ym,Nat.zero_add];exact List.getElem?_eq_getElem hi⟩⟩
 refine X0 (E:=49) (n:=5) (bytes:=40) (k:=1) EB Tryz.underlying37 zF mg rfl ZdN s d src (oC x) (by omega) (by omega) ?_
 intro v' o' h' w k _
 obtain⟨p,c,rfl,_⟩:=w.isSlice
 refine H p c o' h' ?_ k
 unfold QI
 rw[Ye,Ud,List.length_append]
 exact w
def ZaU (i:Nat) (t:Tg):Prop:=t=.node i∨t=.queue i
theorem oH (T:World) (h:Hp) (o:Ow) (wb i nb:Nat) (a:NA) (n:Nd) (x:Cm) (d:Uq o h) (N:ZJ o h wb i nb a n) (hq:n.queue.length≤1000000000000) (hl:n.log.length≤1000000000000) :
  Zd Tryz.prog T 75 #[Zo nb,WU x] h fun v' h'=>∃o' a',Kp (ZaU i) o h o' h'∧ZJ o' h' wb i nb a' (add n x):=by
 have Wo:=Za N.ZF.2
 have R:=Zx N.ZF.2 N.pt.store.len
 refine Zd.Zj (args:=[_,_]) Tryz.func75 rfl rfl rfl rfl ?_
 unfold Zo WU
 have e1:nb≠h.size:=by omega
 simp -implicitDefEqProofs only[go_sem,↓reduceIte]
 obtain⟨h1,YD⟩:=Zy (h.push (.cells x.C.toArray 49):Hp)
 have k1:Kp Qz o h o h1:=by rw[YD];exact ZX d _
 have x1:ZN o h1 h.size (.cells x.C.toArray 49):=⟨d _ (Nat.le_refl _),by rw[YD];exact Zb⟩
 rw[←YD]
 have N1:=N.still k1
 clear YD
 have R1:=Zx N1.ZF.2 N1.pt.store.len
 have JN:=Za N1.ZF.2
 have hs1:=Za x1.2
 have r1:rd h1 ⟨h.size,0,none⟩ 5=some x.C:=Zp x1.2 rfl
 refine VS.z (h1.size) [13] (.p 0 (.p 1 (.p 2 (.q 3 (.q 4 (.s 5 (.p 6 (.p 7 (.p 8 (.p 9 (.p 10 (.q 11 (.q 12 (.w 13 (.p 14 (.p 15 .nil)))))))))))))))) mixed (by kernel_rfl) ?_
 simp -implicitDefEqProofs only[go_sem,↓reduceIte,R1.queue,JN,r1,hs1]
 refine (Vk T h1 _ n.queue x N1.pt.queue.ts (by omega)).use ?_
 rintro _ h2 ⟨rfl,b2⟩
 by_cases q1:x∈n.queue
 ·have e:add n x=n:=by unfold add;rw[if_pos (.inl q1)]
  simp -implicitDefEqProofs only[go_sem,↓reduceIte,q1,b2,e]
  exact⟨o,a,(ZE k1).Ya b2,N1.still (ZC k1.ZW b2)⟩
 simp -implicitDefEqProofs only[go_sem,↓reduceIte,q1,b2,R1.log,JN,r1,hs1]
 have k2:=ZC k1.ZW b2
 refine (Vk T h2 _ n.log x (N1.still k2).pt.log.ts (by omega)).use ?_
 rintro _ h3 ⟨rfl,b3⟩
 have jG:Zg h1.size h1 h3:=b2.trans (b3.mono b2.size)
 have k3:=ZC k1.ZW jG
 by_cases q2:x∈n.log
 ·have e:add n x=n:=by unfold add;rw[if_pos (.inr q2)]
  simp -implicitDefEqProofs only[go_sem,↓reduceIte,q2,jG,e]
  exact⟨o,a,(ZE k1).Ya jG,N1.still k3⟩
 have e:add n x = { n with queue:=n.queue++[x] }:=by unfold add;rw[if_neg (fun q=>q.elim q1 q2)]
 simp -implicitDefEqProofs only[go_sem,↓reduceIte,q2,jG,e]
 have N3:=N1.still k3
 have x3:=x1.Zc k3
 have R3:=Zx N3.ZF.2 N3.pt.store.len
 have R7:=Za N3.ZF.2
 have hs3:=Za x3.2
 have r3:rd h3 ⟨h.size,0,none⟩ 5=some x.C:=Zp x3.2 rfl
 refine VS.z (h3.size) [7,10] (.p 0 (.p 1 (.p 2 (.p 3 (.q 4 (.q 5 (.s 6 (.w 7 (.p 8 (.p 9 (.w 10 .nil))))))))))) mixed (by kernel_rfl) ?_
 simp -implicitDefEqProofs only[go_sem,↓reduceIte,R3.queue,R7,r3,hs3]
 have k4:=ZX k3.ZW (.cells x.C.toArray 49)
 have N4:=N3.still k4
 refine No (l:=n.queue) N4.pt.queue k4.ZW Zb hq ?_
 intro p c o5 h5 w5 k5
 have b5:=N4.ZF.Zc k5 (by intro e;cases e)
 have W5:=YT b5.2 N4.pt.store.len
 have w:=W5.queue (.slice p (n.queue.length+1) c) rfl
 simp -implicitDefEqProofs only[go_sem,↓reduceIte,w]
 exact⟨o5,_,(((ZE k1).Ya jG).push _).trans (k5.mono fun u q=>.inr q) |>.set b5.1 (.inl rfl) _,(N4.pt.HN k5 w5).put k5.ZW b5⟩
def QJ (i:Nat) (t:Tg):Prop:=t=.world∨t=.told∨t=.node i∨t=.known i∨t=.log i∨t=.queue i∨t=.waiting i
theorem oI {β:Type}:∀(l:List (Int × β)) (ks:List Int),ks.Nodup→(∀k∈ks,(Yr l k).isSome=true)→ks.length≤l.length:=by
 intro l
 induction l with
 | nil=>
  intro ks _ h
  cases ks with
  | nil=>simp
  | cons k ks=>have:=h k (by simp);simp[Yr]at this
 | cons x l ih=>
  intro ks hn h
  obtain⟨a,v⟩:=x
  have h1:(ks.erase a).length≤l.length:=ih _ (hn.erase a) fun k hk=>by
   have PS:=(List.Nodup.mem_erase_iff hn).1 hk
   have:=h k PS.2
   unfold Yr at this
   rw[if_neg (fun e=>PS.1 e.symm)]at this
   exact this
  have h2:ks.length≤(ks.erase a).length+1:=by
   rw[List.length_erase];split<;>omega
  simp only[List.length_cons];omega
theorem DS {β:Type} (l:List (Int × β)) (a m:Nat) (h:∀j,j<m→(Yr l ((a+j:Nat):Int)).isSome=true):m≤l.length:=by
 have:=oI l ((List.range m).map fun j=>((a+j:Nat):Int)) ?_ ?_
 ·simpa using this
 ·rw[List.nodup_iff_pairwise_ne,List.pairwise_map]
  exact (List.nodup_range (n:=m)).imp fun {x y} hxy he=>hxy (by omega)
 ·intro k hk
  simp only[List.mem_map,List.mem_range]at hk
  obtain⟨j,hj,rfl⟩:=hk
  exact h j hj
theorem cW (T:World) (h:Hp) (cs:List Value) (s:OE cs) (x:Cm):Zd Tryz.prog T 28 #[.agg cs.toArray,WU x] h fun v' h'=>v'=.tuple #[.agg (Fq cs x).toArray,.agg #[.int .i64 (RV cs x),.int .i64 (Kt cs x)],.int .i64 (Oz cs x)]∧Zg h.size h h':=by
 refine (Au T h cs x.k x.c x.s x.n x.v s.fit s.num s.yes).mono ?_
 rintro v' h' ⟨H,b⟩
 refine⟨?_,b⟩
 rw[H]
 unfold doL Fq RV Kt Oz VL
 by_cases e:NY cs x.k x.c x.s x.n x.v=0
 ·rw[if_pos e,if_pos e,if_pos e,if_pos e,e]
 ·rw[if_neg e,if_neg e,if_neg e,if_neg e]
theorem OE.oJ {cs:List Value} (h:Yy X2 cs=true):OE cs:=⟨h,AP h,DA h⟩
theorem OE.do {cs:List Value} (s:OE cs) (x:Cm):OE (Fq cs x):=by
 obtain⟨D,a,b,h1,h2,_⟩:=uq s.fit x
 refine OE.oJ ?_
 unfold doL at h1
 unfold Fq Oz VL
 by_cases e:NY cs x.k x.c x.s x.n x.v=0
 ·rw[if_pos e]at h1 ⊢
  simp only[List.cons.injEq,Value.agg.injEq,Array.mk.injEq]at h1
  rw[h1.1];exact h2
 ·rw[if_neg e]at h1 ⊢
  simp only[List.cons.injEq,Value.agg.injEq,Array.mk.injEq]at h1
  rw[h1.1];exact h2
theorem Mn {T:World} {K:Value→Hp→Prop} {ty:TypeId} {o:Ow} {t:Tg} {h:Hp} {v:Value} {l:List S9} {x:S9} {bx:Nat} {cb:Array Bool} (s:YB o t 42 5 h v l.length (Zz Kx l)) (d:Uq o h) (hb:h[bx]? = some (.cells (Kx x).toArray 42)) (hr:l.length≤1000000000000)
  (H:∀p c o' h',YB o' t 42 5 h' (.slice p (l.length+1) c) (l++[x]).length (Zz Kx (l++[x]))→Kp (fun u=>u=t) o h o' h'→K (.slice p (l.length+1) c) h') :
  TL Tryz.prog T .append #[31,31] ty cb [v,.slice (some ⟨bx,0,none⟩) 1 1] K h:=by
 have src:Sl 5 h (.slice (some ⟨bx,0,none⟩) 1 1) 1 (Kx x):=⟨_,1,rfl,rfl,fun _=>⟨bx,0,rfl,fun i hi=>by
  rw[Zh hb,Ym,Nat.zero_add];exact List.getElem?_eq_getElem hi⟩⟩
 refine X0 (E:=42) (n:=5) (bytes:=40) (k:=1) ZdM Tryz.underlying31 ZkI ZkK rfl ZkJ s d src rfl (by omega) (by omega) ?_
 intro v' o' h' w k _
 obtain⟨p,c,rfl,_⟩:=w.isSlice
 refine H p c o' h' ?_ k
 rw[Ye,Ud,List.length_append]
 exact w
theorem ZG.cX {o o1:Ow} {h h1:Hp} {wb:Nat} {nb:Nat→Nat} {a:WA} {fl:List Y3} {bad:Nat→Int} {told oK:List S9} {v:Value} (W:ZG o h wb nb a fl bad told) (k:Kp (fun t=>t=.told) o h o1 h1)
  (hv:YB o1 .told 42 5 h1 v oK.length (Zz Kx oK)) {e:Option Hp} (w:e=some (h1.setIfInBounds wb (.cells (Xd bad { a with told:=v }).toArray 97))) :
  ∃g,e=some g∧ZG o1 g wb nb { a with told:=v } fl bad oK∧Kp (fun t=>t=.world) o1 h1 o1 g:=by
 have b:=W.ZF.Zc k (by intro e;cases e)
 have kk:Kp (fun t=>t=.world) o1 h1 o1 (h1.setIfInBounds wb (.cells (Xd bad { a with told:=v }).toArray 97)):=(Kp.refl k.ZW (fun t=>t=.world)).set b.1 rfl _
 exact⟨_,w,⟨⟨b.1,Zv b.2⟩,(W.nodes.Zc k (by intro e;cases e)).Zc kk (by intro e;cases e),(W.Zm.Zc k (by intro e;cases e)).Zc kk (by intro e;cases e),hv.Zc kk (by intro e;cases e)⟩,kk⟩
def cY:Option Value→Nat
 | some (.slice _ l _)=>l
 | _=>0
set_option maxHeartbeats 1000000 in
theorem KB (T:World) (h:Hp) (o:Ow) (wb i nb:Nat) (Z8:Nat→Nat) (a:NA) (n:Nd) (YH:WA) (fl:List Y3) (bad:Nat→Int) (told:List S9) (s:Int) (x:Cm) (d:Uq o h)
  (N:ZJ o h wb i nb a n) (W:ZG o h wb Z8 YH fl bad told) (hk:n.known.length≤100000000000) (hl:n.log.length≤100000000000) (ht:told.length≤100000000000) (hq:n.queue.length≤1000000000000) (hw:n.waiting.length≤1000000000000) :
  Zd Tryz.prog T 114 #[Zo wb,Zo nb,.int .i64 s,WU x] h fun v' h'=>∃o' a' Xu,Kp (QJ i) o h o' h'∧ZJ o' h' wb i nb a' (Un n s x).n∧ZG o' h' wb Z8 Xu fl bad (told++(Un n s x).ts):=by
 have Wo:=Za N.ZF.2
 have Fu:=Za W.ZF.2
 refine Zd.Zj (args:=[_,_,_,_]) Tryz.func114 rfl rfl rfl rfl ?_
 unfold Zo WU
 simp -implicitDefEqProofs only[go_sem,↓reduceIte]
 obtain⟨h1,YD⟩:=Zy (h.push (.cells x.C.toArray 49):Hp)
 have k1:Kp Qz o h o h1:=by rw[YD];exact ZX d _
 have x1:ZN o h1 h.size (.cells x.C.toArray 49):=⟨d _ (Nat.le_refl _),by rw[YD];exact Zb⟩
 rw[←YD]
 have N1:=N.still k1
 have W1:=W.still k1
 clear YD
 have R1:=Zx N1.ZF.2 N1.pt.store.len
 have JN:=Za N1.ZF.2
 have hs1:=Za x1.2
 have r1:rd h1 ⟨h.size,0,none⟩ 5=some x.C:=Zp x1.2 rfl
 refine VS.z (h1.size) [6] (.p 0 (.p 1 (.p 2 (.q 3 (.p 4 (.q 5 (.w 6 .nil))))))) mixed (by kernel_rfl) ?_
 simp -implicitDefEqProofs only[go_sem,↓reduceIte,R1.known,JN,r1,hs1]
 have km:=XP (K:=fun _ _=>True) (x:=.agg x.C.toArray) (n:=s) VN N1.pt.known.2 (P:=Tryz.prog)
 rw[XP VN N1.pt.known.2]
 have k2:Kp (fun t=>t=.known i) o h1 o (h1.setIfInBounds a.known (Xo (ins (Uw WU n.known) s (.agg x.C.toArray)))):=(Kp.refl k1.ZW (fun t=>t=.known i)).set N1.pt.known.1 rfl _
 have m2:Qq o (.known i) (h1.setIfInBounds a.known (Xo (ins (Uw WU n.known) s (.agg x.C.toArray)))) a.known (Uw WU (ins n.known s x)):=
  ⟨N1.pt.known.1,by rw[Zv N1.pt.known.2,TW];rfl⟩
 have N2:ZJ o (h1.setIfInBounds a.known (Xo (ins (Uw WU n.known) s (.agg x.C.toArray)))) wb i nb a (QG n s x):=⟨N1.ZF.Zc k2 (by intro e;cases e),N1.pt.gT k2 m2⟩
 have W2:=W1.Zc k2 (by rintro t rfl;simp[Tg.of])
 have K2:Kp (QJ i) o h o (h1.setIfInBounds a.known (Xo (ins (Uw WU n.known) s (.agg x.C.toArray)))):=(ZE k1).trans (k2.mono fun t q=>.inr (.inr (.inr (.inl q))))
 generalize (h1.setIfInBounds a.known (Xo (ins (Uw WU n.known) s (.agg x.C.toArray))))=h2 at *
 clear km
 unfold Un
 obtain⟨L,hL⟩:=Zy ((QG n s x).known.length)
 have hLb:L≤100000000001:=by
  rw[hL];unfold QG;simp only[RL];split<;>omega
 obtain⟨n0,I8⟩:=Zy (QG n s x)
 rw[←I8]at N2 hL ⊢
 rw[←hL]
 have hl0:n0.log.length≤100000000000:=by rw[I8];exact hl
 have hq0:n0.queue.length≤1000000000000:=by rw[I8];exact hq
 have hw0:n0.waiting.length≤1000000000000:=by rw[I8];exact hw
 clear N1 W1 R1 JN hs1 r1 k2 m2 N W hk hl hq hw I8 k1 x1
 simp -implicitDefEqProofs only[go_sem,↓reduceIte]
 refine VS.ZV (fun F g=>F 0=.pointer (some ⟨wb,0,none⟩)∧F 1=.pointer (some ⟨nb,0,none⟩)∧∃o' a' Xu m ts f j,Kp (QJ i) o h o' g∧ZJ o' g wb i nb a' m∧ZG o' g wb Z8 Xu fl bad (told++ts)∧f+j=L+1∧m.known=n0.known∧m.log.length=n0.log.length+j ∧
   m.queue.length≤1000000000000∧m.waiting.length≤1000000000000∧ts.length≤j∧(∀j',j'<j→(Yr n0.known ((n0.log.length+j':Nat):Int)).isSome=true)∧(Yu (L+1) n0).1=(Yu f m).1∧(Yu (L+1) n0).2=ts++(Yu f m).2)
  (fun F g=>n0.log.length+L+2-cY (hc g ⟨nb,11,none⟩)) rfl ⟨rfl,rfl,o,a,YH,n0,[],L+1,0,K2,N2,by rw[List.append_nil];exact W2,rfl,rfl,rfl,hq0,hw0,Nat.le_refl _,fun j' h=>by omega,rfl,rfl⟩ ?_
 rintro F g ⟨f0,f1,o',a',Xu,m,ts,f,j,K,M,V,hf,bL,jE,hmq,hmw,hts,hjs,g1,g2⟩
 have R:=Zx M.ZF.2 M.pt.store.len
 have uI:=Za M.ZF.2
 obtain⟨lp,lc,IU,hlc⟩:=YB.isSlice M.pt.log
 have mu:cY (hc g ⟨nb,11,none⟩)=m.log.length:=by rw[R.log,IU];rfl
 rw[mu]
 have R11:=R.log
 rw[IU]at R11
 have lk:=fun (K:Value→Hp→Prop)=>Yt (K:=K) (n:=(m.log.length:Int)) (c:=true) VN OD M.pt.known.2
 have Vm:=fun (K:Value→Hp→Prop) (x:Obj)=>Yt (h:=g.push x) (K:=K) (n:=(m.log.length:Int)) (c:=true) VN OD ((Zr (Za M.pt.known.2)).trans M.pt.known.2)
 rw[Xn]at lk
 simp only[Xn]at Vm
 simp -implicitDefEqProofs only[go_sem,↓reduceIte,f0,f1]
 cases hx:Yr m.known (m.log.length:Int) with
 | none=>
  rw[hx]at lk
  simp only[hx,Option.map_none,Option.getD_none,Option.isSome_none,↓reduceIte]at lk Vm
  have e:f≠0→Yu f m=(m,[]):=fun Yw=>by
   obtain⟨f',rfl⟩:∃f',f=f'+1:=⟨f-1,by omega⟩
   unfold Yu;rw[hx]
  have e':Yu f m=(m,[]):=by
   by_cases q:f=0
   ·subst q;rfl
   ·exact e q
  rw[e']at g1 g2
  refine VS.mono (N:=fun F' g'=>Zg g.size g g'∧F' 9=.bool false) ?_ ?_ (fun _ _ _ h=>h) (fun _ _ h=>h)
  ·refine VS.z (g.size) [9,14] (.p 0 (.p 1 (.p 2 (.q 3 (.p 4 (.p 5 (.p 6 (.q 7 (.p 8 (.or 9 (.p 10 (.p 11 (.p 12 (.s 13 (.w 14 (.p 15 .nil)))))) (.s 13 (.w 9 (.p 10 (.p 11 (.p 12 (.w 14 (.p 15 .nil))))))))))))))))) mixed (by kernel_rfl) ?_
   simp -implicitDefEqProofs only[go_sem,↓reduceIte,f0,f1,R.known,R11,uI,lk,Vm]
   repeat' (first|exact Zg.refl _ _|exact Zg.push (Nat.le_refl _) _|refine And.intro ?_ ?_)
  ·rintro F' g' ⟨b,f9⟩
   simp -implicitDefEqProofs only[go_sem,↓reduceIte,f9]
   rw[g1,g2,List.append_nil]
   exact⟨o',a',Xu,K.Ya b,M.still (ZC K.ZW b),V.still (ZC K.ZW b)⟩
 | some y=>
  rw[hx]at lk
  simp only[hx,Option.map_some,Option.getD_some,Option.isSome_some,↓reduceIte]at lk Vm
  refine VS.mono (N:=fun F' g'=>Zg g.size g g'∧F' 0=.pointer (some ⟨wb,0,none⟩)∧F' 1=.pointer (some ⟨nb,0,none⟩)∧F' 9=.bool true∧F' 8=.pointer (some ⟨g.size,0,none⟩)∧g'[g.size]? = some (.cells y.C.toArray 49)) ?_ ?_ (fun _ _ _ h=>h) (fun _ _ h=>h)
  ·refine VS.z (g.size) [9,14] (.p 0 (.p 1 (.p 2 (.q 3 (.p 4 (.p 5 (.p 6 (.q 7 (.p 8 (.or 9 (.p 10 (.p 11 (.p 12 (.s 13 (.w 14 (.p 15 .nil)))))) (.s 13 (.w 9 (.p 10 (.p 11 (.p 12 (.w 14 (.p 15 .nil))))))))))))))))) mixed (by kernel_rfl) ?_
   simp -implicitDefEqProofs only[go_sem,↓reduceIte,f0,f1,R.known,R11,uI,lk,Vm,WU]
   have gp:∀x:Obj,(g.push x)[g.size]? = some x:=fun x=>Zb
   repeat' (first|exact Zg.refl _ _|exact Zg.push (Nat.le_refl _) _|exact gp _|refine And.intro ?_ ?_)
  ·rintro F2 g2 ⟨b2,f20,f21,f29,f28,x2⟩
   simp -implicitDefEqProofs only[go_sem,↓reduceIte,f29]
   have kb:=ZC K.ZW b2
   have M2:=M.still kb
   have V2:=V.still kb
   have bx2:ZN o' g2 g.size (.cells y.C.toArray 49):=⟨K.ZW _ (Nat.le_refl _),x2⟩
   have K2:=K.Ya b2
   have T9:=uI
   clear R R11 lk Vm uI mu
   have R2:=Zx M2.ZF.2 M2.pt.store.len
   have JR:=Za M2.ZF.2
   have hs2:=Za x2
   have r2:rd g2 ⟨g.size,0,none⟩ 5=some y.C:=Zp x2 rfl
   refine VS.z (g2.size) [7,10] (.p 0 (.p 1 (.p 2 (.p 3 (.q 4 (.q 5 (.s 6 (.w 7 (.p 8 (.p 9 (.w 10 .nil))))))))))) mixed (by kernel_rfl) ?_
   simp -implicitDefEqProofs only[go_sem,↓reduceIte,f20,f21,f28,R2.log,JR,hs2,r2]
   have k3:=ZX K2.ZW (.cells y.C.toArray 49)
   refine No (l:=m.log) (M2.still k3).pt.log k3.ZW Zb (by omega) ?_
   intro p c o3 g3 w3 kk3
   have k3':Kp (fun t=>t=.log i) o' g2 o3 g3:=(ZE k3).trans kk3
   have b3:=M2.ZF.Zc k3' (by intro e;cases e)
   have w:=(YT b3.2 M2.pt.store.len).log (.slice p (m.log.length+1) c) rfl
   simp -implicitDefEqProofs only[go_sem,↓reduceIte,w]
   have M4:=(M2.pt.uF k3' w3).put k3'.ZW b3
   have kn:Kp (fun t=>t=.node i) o3 g3 o3 (g3.setIfInBounds nb (Xg { m with log:=m.log++[y] } { a' with log:=.slice p (m.log.length+1) c })):=(Kp.refl k3'.ZW (fun t=>t=.node i)).set b3.1 rfl _
   have V4:=(V2.Zc k3' (by rintro t rfl;simp[Tg.of])).Zc kn (by rintro t rfl;simp[Tg.of])
   have x4:=(bx2.Zc k3').Zc kn
   have K4:Kp (QJ i) o h o3 (g3.setIfInBounds nb (Xg { m with log:=m.log++[y] } { a' with log:=.slice p (m.log.length+1) c })):=
    (K2.trans (k3'.mono fun t q=>.inr (.inr (.inr (.inr (.inl q)))))).trans (kn.mono fun t q=>.inr (.inr (.inl q)))
   obtain⟨g4,OI⟩:=Zy (g3.setIfInBounds nb (Xg m { a' with log:=.slice p (m.log.length+1) c }))
   rw[show Xg { m with log:=m.log++[y] } { a' with log:=.slice p (m.log.length+1) c } = Xg m { a' with log:=.slice p (m.log.length+1) c } from rfl,←OI]at M4 V4 x4 K4
   rw[←OI]
   clear OI kn
   have R4:=Zx M4.ZF.2 M4.pt.store.len
   have MF:=Za M4.ZF.2
   have hs4:=Za x4.2
   have r4:rd g4 ⟨g.size,0,none⟩ 5=some y.C:=Zp x4.2 rfl
   have call:=fun G=>cW T G m.store M4.pt.store y
   have R4s:rd g4 ⟨nb,12,none⟩ 40=some m.store:=R4.store
   have hD:=(M4.pt.store.do y)
   have hD0:Fq ({ m with log:=m.log++[y] }:Nd).store y=Fq m.store y:=rfl
   rw[hD0]at hD
   obtain⟨D,hDe⟩:=Zy (Fq m.store y)
   obtain⟨E,hE⟩:=Zy (Oz m.store y)
   obtain⟨c1,UF⟩:=Zy (RV m.store y)
   obtain⟨c2,Ha⟩:=Zy (Kt m.store y)
   rw[←hDe]at hD
   rw[←hDe,←hE,←UF,←Ha]at call
   have Mo:=hD.len
   have CJ:=hD.one
   unfold WU at call
   have Gi:=ZP (zs:=JH) (vs:=D) (by rw[Mo];rfl)
   unfold JH at Gi
   simp only[rep,List.cons_append,List.nil_append]at Gi
   have wA:∀(G:Hp) (k:Nat),G[k]? = some (.cells JH.toArray 62)→wr G ⟨k,0,none⟩ D=some (G.setIfInBounds k (.cells D.toArray 62)):=fun G k hx=>by
    rw[ZS hx 0 D,ZP (by rw[Mo];rfl),if_pos ⟨by rw[Mo];simp[JH,rep],CJ⟩]
   have wB:∀(G:Hp) (k:Nat),G[k]? = some (.cells [.int .i64 0,.int .i64 0].toArray 40)→wr G ⟨k,0,none⟩ [.int .i64 c1,.int .i64 c2]=some (G.setIfInBounds k (.cells [.int .i64 c1,.int .i64 c2].toArray 40)):=fun G k hx=>by
    rw[ZS hx 0 _];rfl
   have gl:∀(G:Hp) (X Y:Obj),((G.push X).push Y)[G.size]? = some X:=fun G X Y=>by rw[Zr (by simp),Zb]
   have gs:∀(G:Hp) (k:Nat) (X Y:Obj),((G.setIfInBounds k X).push Y)[G.size]? = some Y:=fun G k X Y=>by
    have:=Zb (h:=G.setIfInBounds k X) (o:=Y);rwa [Array.size_setIfInBounds]at this
   have gl':=gs
   have gr:∀(G:Hp) (X Y:Obj),((G.push X).push Y)[G.size+1]? = some Y:=fun G X Y=>by
    have:=Zb (h:=G.push X) (o:=Y);rwa [Array.size_push]at this
   refine VS.mono (N:=fun F' g'=>Zg g4.size g4 g'∧F' 0=.pointer (some ⟨wb,0,none⟩)∧F' 1=.pointer (some ⟨nb,0,none⟩)∧F' 8=.pointer (some ⟨g.size,0,none⟩)∧∃A B,F' 10=.pointer (some ⟨A,0,none⟩)∧F' 11=.pointer (some ⟨B,0,none⟩)∧g4.size≤A∧g4.size≤B∧g'[A]? = some (.cells D.toArray 62)∧g'[B]? = some (.cells [.int .i64 c1,.int .i64 c2].toArray 40)) ?_ ?_ (fun _ _ _ h=>h) (fun _ _ h=>h)
   ·refine VS.z (g4.size) [5,12,13] (.p 0 (.p 1 (.p 2 (.q 3 (.q 4 (.or 5 (.p 6 (.p 7 (.p 8 (.p 9 (.or 10 (.s 11 (.w 12 (.w 13 (.p 14 .nil)))) (.s 11 (.s 10 (.w 12 (.w 13 (.p 14 .nil)))))))))) (.or 10 (.or 5 (.p 6 (.p 7 (.p 8 (.p 9 (.s 11 (.w 12 (.w 13 (.p 14 .nil)))))))) (.s 11 (.w 5 (.p 6 (.p 7 (.p 8 (.p 9 (.w 12 (.w 13 (.p 14 .nil)))))))))) (.s 11 (.or 5 (.p 6 (.p 7 (.p 8 (.p 9 (.s 10 (.w 12 (.w 13 (.p 14 .nil)))))))) (.s 10 (.w 5 (.p 6 (.p 7 (.p 8 (.p 9 (.w 12 (.w 13 (.p 14 .nil)))))))))))))))))) mixed (by kernel_rfl) ?_
    simp -implicitDefEqProofs only[go_sem,↓reduceIte,f20,f21,f28,R4s,MF,hs4,r4]
    repeat' (first|with_reducible exact Zg.refl _ _|with_reducible exact Zg.push (by omega) _|with_reducible refine And.intro ?_ ?_)
    all_goals first
     | (refine (call g4).use ?_
        rintro _ g5 ⟨rfl,b5⟩
        have s5:=b5.size
        simp -implicitDefEqProofs only[go_sem,↓reduceIte,b5,Mo,CJ,Gi]
        refine⟨⟨f20,f21,f28,_,_,rfl,rfl,s5,by omega,gl _ _ _,gr _ _ _⟩,⟨f20,f21,f28,_,_,rfl,rfl,by omega,s5,gr _ _ _,gl _ _ _⟩⟩)
     | (refine (call (g4.push (.cells _ 62))).use ?_
        rintro _ g5 ⟨rfl,b5⟩
        have s5:=b5.size
        rw[Array.size_push]at s5
        have B5:Zg g4.size g4 g5:=(Zg.push (Nat.le_refl _) _).trans (b5.mono (by simp))
        have xA:=b5.get (k:=g4.size) (by simp) Zb
        have TD:=wA _ _ xA
        have zA:=Za xA
        have gA:=Zv (o:=.cells D.toArray 62) xA
        simp -implicitDefEqProofs only[go_sem,↓reduceIte,B5,Mo,CJ,TD,zA]
        exact⟨f20,f21,f28,_,_,rfl,rfl,Nat.le_refl _,by omega,by rw[Zr (by simpa using zA)];exact gA,gs _ _ _ _⟩)
     | (refine (call (g4.push (.cells _ 40))).use ?_
        rintro _ g5 ⟨rfl,b5⟩
        have s5:=b5.size
        rw[Array.size_push]at s5
        have B5:Zg g4.size g4 g5:=(Zg.push (Nat.le_refl _) _).trans (b5.mono (by simp))
        have xB:=b5.get (k:=g4.size) (by simp) Zb
        have KC:=wB _ _ xB
        have zB:=Za xB
        have gB:=Zv (o:=.cells [.int .i64 c1,.int .i64 c2].toArray 40) xB
        simp -implicitDefEqProofs only[go_sem,↓reduceIte,B5,Mo,CJ,KC,Gi,zB]
        exact⟨f20,f21,f28,_,_,rfl,rfl,by omega,Nat.le_refl _,gl' _ _ _ _,by rw[Zr (by simpa using zB)];exact gB⟩)
     | (refine (call ((g4.push (.cells _ 62)).push (.cells _ 40))).use ?_
        rintro _ g5 ⟨rfl,b5⟩
        have s5:=b5.size
        rw[Array.size_push,Array.size_push]at s5
        have B5:Zg g4.size g4 g5:=((Zg.push (Nat.le_refl _) _).Yh (by simp) _).trans (b5.mono (by simp;omega))
        have xA:=b5.get (k:=g4.size) (by simp;omega) (gl _ _ _)
        have xB:=b5.get (k:=g4.size+1) (by simp) (gr _ _ _)
        have TD:=wA _ _ xA
        have zA:=Za xA
        have Np:=(Yi (o:=.cells D.toArray 62) (show g4.size≠g4.size+1 by omega)).trans xB
        have KC:=wB _ _ Np
        have zB:=Za Np
        simp -implicitDefEqProofs only[go_sem,↓reduceIte,B5,Mo,CJ,TD,zA,KC,zB]
        exact⟨f20,f21,f28,_,_,rfl,rfl,by omega,by omega,(Yi (by omega)).trans (Zv xA),Zv Np⟩)
     | (refine (call ((g4.push (.cells _ 40)).push (.cells _ 62))).use ?_
        rintro _ g5 ⟨rfl,b5⟩
        have s5:=b5.size
        rw[Array.size_push,Array.size_push]at s5
        have B5:Zg g4.size g4 g5:=((Zg.push (Nat.le_refl _) _).Yh (by simp) _).trans (b5.mono (by simp;omega))
        have xB:=b5.get (k:=g4.size) (by simp;omega) (gl _ _ _)
        have xA:=b5.get (k:=g4.size+1) (by simp) (gr _ _ _)
        have TD:=wA _ _ xA
        have zA:=Za xA
        have Np:=(Yi (o:=.cells D.toArray 62) (show g4.size+1≠g4.size by omega)).trans xB
        have KC:=wB _ _ Np
        have zB:=Za Np
        simp -implicitDefEqProofs only[go_sem,↓reduceIte,B5,Mo,CJ,TD,zA,KC,zB]
        exact⟨f20,f21,f28,_,_,rfl,rfl,by omega,by omega,(Yi (by omega)).trans (Zv xA),Zv Np⟩)
   ·rintro F5 g5 ⟨b5,f50,f51,f58,A,B,f5A,f5B,hA,hB,yA,yB⟩
    have HT:=ZC K4.ZW b5
    have M5:=M4.still HT
    have V5:=V4.still HT
    have x5:=x4.Zc HT
    have K5:=K4.Ya b5
    have z5:=Za M5.ZF.2
    have rA:rd g5 ⟨A,0,none⟩ 40=some D:=Zp yA Mo
    obtain⟨g6,w6,M6,k6⟩:=ZU.write (n:={ m with log:=m.log++[y],store:=D }) { M5.pt with store:=hD } K5.ZW M5.ZF ((YT M5.ZF.2 M5.pt.store.len).store D Mo CJ)
    have V6:=V5.Zc k6 (by rintro t rfl;simp[Tg.of])
    have x6:=x5.Zc k6
    have K6:Kp (QJ i) o h o3 g6:=K5.trans (k6.mono fun t q=>.inr (.inr (.inl q)))
    have xB6:=(show ZN o3 g5 B _ from⟨K4.ZW _ (by omega),yB⟩).Zc k6
    have R6:=Zx M6.ZF.2 Mo
    have z6:=Za M6.ZF.2
    clear R4 R4s MF hs4 r4 R2 JR hs2 r2
    simp -implicitDefEqProofs only[go_sem,↓reduceIte,f50,f51,f58,f5A,f5B,rA,w6,Mo,R6.queue,z5]
    refine (DR T g6 o3 (.queue i) _ m.queue g.size y M6.pt.queue K6.ZW x6 (by omega)).use ?_
    rintro v7 g7 ⟨q7,k7⟩
    obtain⟨p7,c7,rfl,_⟩:=YB.isSlice q7
    have b7:=M6.ZF.Zc k7 (by intro e;cases e)
    obtain⟨g8,w8,M8,k8⟩:=(M6.pt.HN k7 q7).write k7.ZW b7 ((YT b7.2 Mo).queue (.slice p7 _ c7) rfl)
    have z7:=Za b7.2
    have V8:=(V6.Zc k7 (by rintro t rfl;simp[Tg.of])).Zc k8 (by rintro t rfl;simp[Tg.of])
    have x8:=(x6.Zc k7).Zc k8
    have xB8:=(xB6.Zc k7).Zc k8
    have K8:Kp (QJ i) o h o3 g8:=(K6.trans (k7.mono fun t q=>.inr (.inr (.inr (.inr (.inr (.inl q))))))).trans (k8.mono fun t q=>.inr (.inr (.inl q)))
    have R8:=Zx M8.ZF.2 Mo
    have z8:=Za M8.ZF.2
    simp -implicitDefEqProofs only[go_sem,↓reduceIte,f50,f51,f58,w8,z7,R8.waiting]
    refine (Kz T g8 _ m.waiting g.size y M8.pt.waiting.ts x8.2 (by omega)).use ?_
    rintro _ g9 ⟨rfl,b9⟩
    have kb9:=ZC K8.ZW b9
    have M9:=M8.still kb9
    have V9:=V8.still kb9
    have x9:=x8.Zc kb9
    have xB9:=xB8.Zc kb9
    have K9:=K8.Ya b9
    have TC:∃f',f=f'+1:=⟨f-1,by
     have:f≠0:=fun q=>by
      subst q
      have hj:j=L+1:=by omega
      have:=DS n0.known n0.log.length (L+2) fun j' hj'=>by
       by_cases q:j'<j
       ·exact hjs j' q
       ·have:j'=j:=by omega
        subst this
        rw[←jE,←bL,hx];rfl
      rw[←hL]at this
      omega
     omega⟩
    obtain⟨f',rfl⟩:=TC
    have lg:Yu (f'+1) m=((Yu f' (Ux m y)).1,Tp m y++(Yu f' (Ux m y)).2):=by
     rw[Yu,hx]
    rw[lg]at g1 g2
    have ZfC:∀j',j'<j+1→(Yr n0.known ((n0.log.length+j':Nat):Int)).isSome=true:=fun j' hj'=>by
     by_cases q:j'<j
     ·exact hjs j' q
     ·have:j'=j:=by omega
      subst this
      rw[←jE,←bL,hx];rfl
    have ue:(m.queue.filter fun z=>decide (z≠y)).length≤m.queue.length:=List.length_filter_le _ _
    have mono:∀(G:Hp) (nn:Nd) (aa:NA) (oo:Ow),ZJ oo G wb i nb aa nn→nn.log.length=m.log.length+1→n0.log.length+L+2-cY (hc G ⟨nb,11,none⟩)<n0.log.length+L+2-m.log.length:=fun G nn aa oo H hh=>by
     have RR:=Zx H.ZF.2 H.pt.store.len
     obtain⟨lp,lc,IU,hlc⟩:=YB.isSlice H.pt.log
     have:cY (hc G ⟨nb,11,none⟩)=nn.log.length:=by rw[RR.log,IU];rfl
     rw[this,hh]
     omega
    by_cases hy:y∈m.waiting
    case neg=>
     have e1:VP m.waiting y = -1:=by unfold VP;rw[if_neg hy]
     have e2:Tp m y=[]:=by unfold Tp;rw[if_neg hy]
     have e3:m.waiting.erase y=m.waiting:=List.erase_of_not_mem hy
     rw[e2]at g2
     have e4:Ux m y = { m with log:=m.log++[y],store:=D,queue:=m.queue.filter (fun z=>decide (z≠y)) }:=by unfold Ux;rw[e3,←hDe]
     rw[e4]at g1 g2
     rw[List.nil_append]at g2
     simp -implicitDefEqProofs only[go_sem,↓reduceIte,e1]
     unfold Y4
     refine⟨⟨f50,f51,o3,_,Xu,_,ts,f',j+1,K9,M9,V9,by omega,bL,by simp[jE];omega,by simp only;omega,hmw,by omega,ZfC,g1,g2⟩,mono _ _ _ _ M9 (by simp)⟩
    have e1:0≤VP m.waiting y:=(OG _ _).2 hy
    have e5:VP m.waiting y=(m.waiting.idxOf y:Nat):=by unfold VP;rw[if_pos hy]
    obtain⟨r,hr⟩:=Zy (m.waiting.idxOf y)
    have qE:r<m.waiting.length:=by rw[hr];exact List.idxOf_lt_length_of_mem hy
    rw[←hr]at e5
    have e2:Tp m y=[⟨m.me,y.c,y.s,RV m.store y,Kt m.store y⟩]:=by unfold Tp;rw[if_pos hy]
    have e3:m.waiting.erase y=m.waiting.take r++m.waiting.drop (r+1):=by
     rw[List.erase_eq_eraseIdx_of_idxOf,List.eraseIdx_eq_take_drop_succ]
     exact hr.symm
    rw[e2]at g2
    have R9:=Zx M9.ZF.2 Mo
    have z9:=Za M9.ZF.2
    simp -implicitDefEqProofs only[go_sem,↓reduceIte,e1,e5,f50,f51,f58,R9.waiting,z9]
    refine (DO T g9 o3 (.waiting i) _ m.waiting.length r _ M9.pt.waiting K9.ZW (uH _) qE (by omega)).use ?_
    rintro v10 g10 ⟨q10,gU⟩
    have wl:(m.waiting.erase y).length=m.waiting.length-1:=by rw[e3,List.length_append,List.length_take,List.length_drop];omega
    have Q10:QI o3 (.waiting i) g10 v10 (m.waiting.erase y):=by
     unfold QI
     rw[wl,e3,Ye,←SV OF _ _ (by omega),←VQ OF _ _ (by omega)]
     exact q10
    obtain⟨p10,c10,rfl,_⟩:=YB.isSlice Q10
    have b10:=M9.ZF.Zc gU (by intro e;cases e)
    obtain⟨qN,w11,M11,jH⟩:=(M9.pt.Ml gU Q10).write gU.ZW b10 ((YT b10.2 Mo).waiting (.slice p10 _ c10) rfl)
    have z10:=Za b10.2
    have V11:=(V9.Zc gU (by rintro t rfl;simp[Tg.of])).Zc jH (by rintro t rfl;simp[Tg.of])
    have x11:=(x9.Zc gU).Zc jH
    have ZfD:=(xB9.Zc gU).Zc jH
    have K11:Kp (QJ i) o h o3 qN:=(K9.trans (gU.mono fun t q=>.inr (.inr (.inr (.inr (.inr (.inr q))))))).trans (jH.mono fun t q=>.inr (.inr (.inl q)))
    have R11:=Zx M11.ZF.2 Mo
    have z11:=Za M11.ZF.2
    have U11:=YZ V11.ZF.2
    have Zn9:=Za V11.ZF.2
    have rx1:hc qN ⟨g.size,1,none⟩=some (.int .i64 y.c):=Zh x11.2
    have rx2:hc qN ⟨g.size,2,none⟩=some (.int .i64 y.s):=Zh x11.2
    have rB:rd qN ⟨B,0,none⟩ 2=some [.int .i64 c1,.int .i64 c2]:=Zp ZfD.2 rfl
    have Zob:=Za x11.2
    have Zoc:=Za ZfD.2
    simp -implicitDefEqProofs only[go_sem,↓reduceIte,w11,z10]
    refine VS.z (qN.size) [17,21] (.p 0 (.p 1 (.p 2 (.p 3 (.p 4 (.q 5 (.p 6 (.p 7 (.p 8 (.q 9 (.p 10 (.q 11 (.p 12 (.q 13 (.q 14 (.p 15 (.s 16 (.w 17 (.p 18 (.p 19 (.p 20 (.w 21 .nil)))))))))))))))))))))) mixed (by kernel_rfl) ?_
    simp -implicitDefEqProofs only[go_sem,↓reduceIte,f50,f51,f58,f5B,U11.told,R11.me,rx1,rx2,rB,z11,Zn9,Zob,Zoc]
    have uJ:=ZX K11.ZW (.cells (Kx ⟨m.me,y.c,y.s,c1,c2⟩).toArray 42)
    have V12:=V11.still uJ
    refine Mn (l:=told++ts) (x:=⟨m.me,y.c,y.s,c1,c2⟩) V12.told uJ.ZW Zb (by rw[List.length_append];omega) ?_
    intro p13 c13 o13 g13 q13 k13
    have jG:=V12.ZF.Zc k13 (by intro e;cases e)
    obtain⟨g14,w14,V14,k14⟩:=V12.cX k13 q13 ((YZ jG.2).xW (.slice p13 _ c13) rfl)
    have z13:=Za jG.2
    simp -implicitDefEqProofs only[go_sem,↓reduceIte,w14,z13]
    have M14:=((M11.still uJ).Zc k13 (by rintro t rfl;simp[Tg.of])).Zc k14 (by rintro t rfl;simp[Tg.of])
    have K14:Kp (QJ i) o h o13 g14:=(((K11.trans (ZE uJ)).trans (k13.mono fun t q=>.inr (.inl q))).trans (k14.mono fun t q=>.inl q))
    have e4:Ux m y = { m with log:=m.log++[y],store:=D,queue:=m.queue.filter (fun z=>decide (z≠y)),waiting:=m.waiting.erase y }:=by unfold Ux;rw[←hDe]
    rw[e4]at g1 g2
    rw[←UF,←Ha]at g2
    obtain⟨ZzI,V15⟩:∃A,ZG o13 g14 wb Z8 A fl bad (told++(ts++[⟨m.me,y.c,y.s,c1,c2⟩])):=⟨_,by rw[←List.append_assoc];exact V14⟩
    rw[←List.append_assoc]at g2
    unfold Y4
    refine⟨⟨f50,f51,o13,_,_,_,ts++[⟨m.me,y.c,y.s,c1,c2⟩],f',j+1,K14,M14,V15,by omega,bL,by simp[jE];omega,by simp only;omega,by simp only;omega,by simp;omega,ZfC,g1,g2⟩,mono _ _ _ _ M14 (by simp)⟩
def ZfE (o:Ow) (h:Hp) (wb:Nat) (Z8:Nat→Nat) (fl:List Y3) (bad:Nat→Int) (told:List S9) (h':Hp):Prop:=
 ∃o' Xu,Kp cU o h o' h'∧ZG o' h' wb Z8 Xu fl bad told
theorem cZ (T:World) (h:Hp) (o:Ow) (wb nb:Nat) (Z8:Nat→Nat) (me:Nat) (YH:WA) (fl:List Y3) (bad:Nat→Int) (told:List S9) (b3 b4 b5 b7:Nat) (l:Y3) (w5 w:Value) (vs:List Vt) (d:Uq o h)
  (W:ZG o h wb Z8 YH fl bad told) (IS:hc h ⟨nb,0,none⟩=some (.int .i64 me)) (Wo:nb<h.size) (Yp:fl.length≤1000000000000)
  (x3:ZN o h b3 (.cells [Zo wb].toArray 91)) (x4:ZN o h b4 (.cells [Zo nb].toArray 98)) (x5:ZN o h b5 (.cells (YY l w5).toArray 148)) (x7:ZN o h b7 (.cells [w].toArray 103)) (iv:Wm o h w vs) :
  Zd Tryz.prog T 110 #[Zo b3,Zo b4,Zo b5,Zo b7] h fun v' h'=>ZfE o h wb Z8 (fl++[⟨1,me,l.Jt,l.b,VX,vs⟩]) bad told h':=by
 obtain⟨pw,cw,rfl⟩:=iv.isSlice
 refine Zd.Zj (args:=[_,_,_,_]) Tryz.func110 rfl rfl rfl rfl ?_
 unfold Zo
 have r3:hc h ⟨b3,0,none⟩=some (Zo wb):=Zh x3.2
 have r4:hc h ⟨b4,0,none⟩=some (Zo nb):=Zh x4.2
 have r5:hc h ⟨b5,1,none⟩=some (.int .i64 l.Jt):=Zh x5.2
 have r6:rd h ⟨b5,3,none⟩ 2=some [.int .i64 l.b.r,.int .i64 l.b.n]:=by rw[Z5 x5.2 (by simp[YY])];rfl
 have r7:hc h ⟨b7,0,none⟩=some (.slice pw vs.length cw):=Zh x7.2
 simp -implicitDefEqProofs only[go_sem,↓reduceIte,r3,r4,r5,r6,r7]
 refine (UM T h o wb nb Z8 me YH fl bad told l.Jt ⟨1,0,0,l.b,VX,vs⟩ _ d W IS Wo iv Yp).use ?_
 rintro v' h' ⟨o',Xu,k,_,W'⟩
 simp -implicitDefEqProofs only[go_sem,↓reduceIte]
 exact⟨o',Xu,k,W'⟩
theorem da (T:World) (h:Hp) (o:Ow) (wb nb:Nat) (Z8:Nat→Nat) (me:Nat) (YH:WA) (fl:List Y3) (bad:Nat→Int) (told:List S9) (b3 b4 b5:Nat) (l:Y3) (w5:Value) (d:Uq o h)
  (W:ZG o h wb Z8 YH fl bad told) (IS:hc h ⟨nb,0,none⟩=some (.int .i64 me)) (Wo:nb<h.size) (Yp:fl.length≤1000000000000)
  (x3:ZN o h b3 (.cells [Zo wb].toArray 91)) (x4:ZN o h b4 (.cells [Zo nb].toArray 98)) (x5:ZN o h b5 (.cells (YY l w5).toArray 148)) :
  Zd Tryz.prog T 115 #[Zo b3,Zo b4,Zo b5] h fun v' h'=>ZfE o h wb Z8 (fl++[⟨3,me,l.Jt,Jn,l.v,[]⟩]) bad told h':=by
 refine Zd.Zj (args:=[_,_,_]) Tryz.func115 rfl rfl rfl rfl ?_
 unfold Zo
 have r3:hc h ⟨b3,0,none⟩=some (Zo wb):=Zh x3.2
 have r4:hc h ⟨b4,0,none⟩=some (Zo nb):=Zh x4.2
 have r5:hc h ⟨b5,1,none⟩=some (.int .i64 l.Jt):=Zh x5.2
 have r6:rd h ⟨b5,5,none⟩ 8=some (Zn l.v):=by rw[Z5 x5.2 (by simp[YY])];rfl
 unfold Zn at r6
 simp -implicitDefEqProofs only[go_sem,↓reduceIte,r3,r4,r5,r6]
 refine (UM T h o wb nb Z8 me YH fl bad told l.Jt ⟨3,0,0,Jn,l.v,[]⟩ (.slice none 0 0) d W IS Wo (Im.nil _ _ _ _) Yp).use ?_
 rintro v' h' ⟨o',Xu,k,_,W'⟩
 simp -implicitDefEqProofs only[go_sem,↓reduceIte]
 exact⟨o',Xu,k,W'⟩
def ZaY (i:Nat) (t:Tg):Prop:=t=.world∨t=.Zm∨t=.node i∨t=.prom i∨t=.Xf i
theorem uK (T:World) (h:Hp) (o:Ow) (wb i nb:Nat) (Z8:Nat→Nat) (YH:WA) (fl:List Y3) (bad:Nat→Int) (told:List S9) (a:NA) (n:Nd) (acc:Qw) (to:Int) (b:YG) (vs:List Vt) (b6 b4 b9:Nat) (u:Value) (d:Uq o h)
  (N:ZJ o h wb i nb a n) (W:ZG o h wb Z8 YH fl bad told) (Yp:fl.length≤1000000000000)
  (x6:Sp o h b6 acc) (x4:ZN o h b4 (.cells [Zo nb].toArray 98)) (x9:ZN o h b9 (.cells [u].toArray 1)) (hu:ov o h wb nb u to b vs) :
  Zd Tryz.prog T 112 #[Zo b6,Zo b4,Zo b9] h fun v' h'=>∃o' a' Xu,Kp (ZaY i) o h o' h'∧ZJ o' h' wb i nb a' { n with own:=acc }∧ZG o' h' wb Z8 Xu (fl++[⟨1,n.me,to,b,VX,vs⟩]) bad told:=by
 obtain⟨wa,xa,ia⟩:=x6
 obtain⟨pa,ca,rfl⟩:=ia.isSlice
 obtain⟨b3,Ak,b5,b7,l,w5,w,rfl,y3,y4,y5,rfl,rfl,y7,iv⟩:=hu
 have Wo:=Za N.ZF.2
 refine Zd.Zj (args:=[_,_,_]) Tryz.func112 rfl rfl rfl rfl ?_
 unfold Zo
 have r4:hc h ⟨b4,0,none⟩=some (Zo nb):=Zh x4.2
 have r6:rd h ⟨b6,0,none⟩ 3=some [.int .i64 acc.p.r,.int .i64 acc.p.n,.slice pa acc.l.length ca]:=Zp xa.2 rfl
 obtain⟨g1,w1,N1,k1⟩:=ZU.write (a:={ a with YQ:=.slice pa acc.l.length ca }) (n:={ n with own:=acc }) { N.pt with YQ:=ia } d N.ZF ((YT N.ZF.2 N.pt.store.len).own acc.p.r acc.p.n (.slice pa acc.l.length ca) rfl)
 have W1:=W.Zc k1 (by rintro t rfl;simp[Tg.of])
 have x91:=x9.Zc k1
 have r9:hc g1 ⟨b9,0,none⟩=some (Wu 110 [b3,Ak,b5,b7]):=Zh x91.2
 unfold Wu at r9
 simp only[List.map]at r9
 unfold Zo at r4 r9
 simp -implicitDefEqProofs only[go_sem,↓reduceIte,r4,r6,w1,Wo,r9]
 have R1:=Zx N1.ZF.2 N1.pt.store.len
 refine (cZ T g1 o wb nb Z8 n.me YH fl bad told b3 Ak b5 b7 l w5 w vs k1.ZW W1 R1.me (Za N1.ZF.2) Yp (y3.Zc k1) (y4.Zc k1) (y5.Zc k1) (y7.Zc k1) (iv.Zc k1)).use ?_
 rintro v' h' ⟨o',Xu,k,W'⟩
 simp -implicitDefEqProofs only[go_sem,↓reduceIte]
 exact⟨o',_,Xu,(k1.mono fun t q=>.inr (.inr (.inl q))).trans (k.mono fun t q=>q.elim .inl fun q=>.inr (.inl q)),N1.Zc k (by rintro t (rfl|rfl)<;>simp[Tg.of]),W'⟩
theorem uL (T:World) (h:Hp) (o:Ow) (wb i nb:Nat) (Z8:Nat→Nat) (YH:WA) (fl:List Y3) (bad:Nat→Int) (told:List S9) (a:NA) (n:Nd) (acc:Qw) (to:Int) (x:Vt) (b6 b4 b9:Nat) (u:Value) (d:Uq o h)
  (N:ZJ o h wb i nb a n) (W:ZG o h wb Z8 YH fl bad told) (Yp:fl.length≤1000000000000)
  (x6:Sp o h b6 acc) (x4:ZN o h b4 (.cells [Zo nb].toArray 98)) (x9:ZN o h b9 (.cells [u].toArray 1)) (hu:oy o h wb nb u to x) :
  Zd Tryz.prog T 118 #[Zo b6,Zo b4,Zo b9] h fun v' h'=>∃o' a' Xu,Kp (ZaY i) o h o' h'∧ZJ o' h' wb i nb a' { n with own:=acc }∧ZG o' h' wb Z8 Xu (fl++[⟨3,n.me,to,Jn,x,[]⟩]) bad told:=by
 obtain⟨wa,xa,ia⟩:=x6
 obtain⟨pa,ca,rfl⟩:=ia.isSlice
 obtain⟨b3,Ak,b5,l,w5,rfl,y3,y4,y5,rfl,rfl⟩:=hu
 have Wo:=Za N.ZF.2
 refine Zd.Zj (args:=[_,_,_]) Tryz.func118 rfl rfl rfl rfl ?_
 unfold Zo
 have r4:hc h ⟨b4,0,none⟩=some (Zo nb):=Zh x4.2
 have r6:rd h ⟨b6,0,none⟩ 3=some [.int .i64 acc.p.r,.int .i64 acc.p.n,.slice pa acc.l.length ca]:=Zp xa.2 rfl
 obtain⟨g1,w1,N1,k1⟩:=ZU.write (a:={ a with YQ:=.slice pa acc.l.length ca }) (n:={ n with own:=acc }) { N.pt with YQ:=ia } d N.ZF ((YT N.ZF.2 N.pt.store.len).own acc.p.r acc.p.n (.slice pa acc.l.length ca) rfl)
 have W1:=W.Zc k1 (by rintro t rfl;simp[Tg.of])
 have x91:=x9.Zc k1
 have r9:hc g1 ⟨b9,0,none⟩=some (Wu 115 [b3,Ak,b5]):=Zh x91.2
 unfold Wu at r9
 simp only[List.map]at r9
 unfold Zo at r4 r9
 simp -implicitDefEqProofs only[go_sem,↓reduceIte,r4,r6,w1,Wo,r9]
 have R1:=Zx N1.ZF.2 N1.pt.store.len
 refine (da T g1 o wb nb Z8 n.me YH fl bad told b3 Ak b5 l w5 k1.ZW W1 R1.me (Za N1.ZF.2) Yp (y3.Zc k1) (y4.Zc k1) (y5.Zc k1)).use ?_
 rintro v' h' ⟨o',Xu,k,W'⟩
 simp -implicitDefEqProofs only[go_sem,↓reduceIte]
 exact⟨o',_,Xu,(k1.mono fun t q=>.inr (.inr (.inl q))).trans (k.mono fun t q=>q.elim .inl fun q=>.inr (.inl q)),N1.Zc k (by rintro t (rfl|rfl)<;>simp[Tg.of]),W'⟩
theorem Q0.ins {o:Ow} {h:Hp} {k:Int} {w:Value} {vs:List Vt} (iv:Wm o h w vs):∀{pv:List (Int × Value)} {pr:List (Int × List Vt)},Q0 o h pv pr→Q0 o h (Go.V.ins pv k w) (Go.V.ins pr k vs):=by
 intro pv pr s
 induction s with
 | nil=>exact .cons ⟨rfl,iv⟩ .nil
 | @cons a b l m Gx _ ih=>
  obtain⟨a1,a2⟩:=a
  obtain⟨b1,b2⟩:=b
  obtain⟨rfl,h2⟩:=Gx
  show Cz _ (if a1=k then (a1,w) :: l else (a1,a2) :: Go.V.ins l k w) (if a1=k then (a1,vs) :: m else (a1,b2) :: Go.V.ins m k vs)
  by_cases q:a1=k
  ·rw[if_pos q,if_pos q];exact .cons ⟨rfl,iv⟩ (by assumption)
  ·rw[if_neg q,if_neg q];exact .cons ⟨rfl,h2⟩ ih
theorem Q0.length {o:Ow} {h:Hp} {pv:List (Int × Value)} {pr:List (Int × List Vt)} (s:Q0 o h pv pr):pv.length=pr.length:=by
 induction s with
 | nil=>rfl
 | cons _ _ ih=>simp[ih]
theorem Q0.Yr {o:Ow} {h:Hp} {pv:List (Int × Value)} {pr:List (Int × List Vt)} (s:Q0 o h pv pr) (k:Int):(Go.V.Yr pv k=none∧Go.V.Yr pr k=none)∨∃w vs,Go.V.Yr pv k=some w∧Go.V.Yr pr k=some vs∧Wm o h w vs:=by
 induction s with
 | nil=>exact .inl ⟨rfl,rfl⟩
 | @cons a b l m Gx _ ih=>
  obtain⟨a1,a2⟩:=a
  obtain⟨b1,b2⟩:=b
  obtain⟨rfl,h2⟩:=Gx
  unfold Go.V.Yr
  by_cases q:a1=k
  ·rw[if_pos q,if_pos q];exact .inr ⟨_,_,rfl,rfl,h2⟩
  ·rw[if_neg q,if_neg q];exact ih
theorem YL.db {o:Ow} {i:Nat} {h:Hp} {ra:RA} {r:Jj} (s:YL o i h ra r) (d:Uq o h) {k:Int} {w:Value} {vs:List Vt} (iv:Wm o h w vs) :
  Kp (fun t=>t=.prom i) o h o (h.setIfInBounds ra.pb (Xo (ins ra.pv k w)))∧YL o i (h.setIfInBounds ra.pb (Xo (ins ra.pv k w))) { ra with pv:=ins ra.pv k w } { r with prom:=ins r.prom k vs }:=by
 have kk:Kp (fun t=>t=.prom i) o h o (h.setIfInBounds ra.pb (Xo (ins ra.pv k w))):=(Kp.refl d (fun t=>t=.prom i)).set s.prom.1 rfl _
 exact⟨kk,s.ZF.Zc kk (by intro e;cases e),⟨s.prom.1,Zv s.prom.2⟩,Q0.Zc (Q0.ins iv s.So) kk,s.prop.Zc kk (by intro e;cases e),s.Xt.Zc kk (by intro e;cases e),s.VO.Zc kk (fun _ e=>by cases e),s.keys⟩
theorem ZU.gW {o o':Ow} {h h':Hp} {wb i nb:Nat} {a:NA} {n:Nd} (s:ZU o h wb i nb a n) (k:Kp (fun t=>t=.Xf i) o h o' h') (hp:n.ZA=none):ZU o' h' wb i nb a n:=
 ⟨s.data.Zc k,s.YQ.Zc k,s.Zi.Zc k (fun t ht=>by rcases ht with rfl|rfl|rfl|rfl|⟨z,rfl⟩<;>intro e<;>cases e),s.known.Zc k (by intro e;cases e),s.log.Zc k (by intro e;cases e),s.queue.Zc k (by intro e;cases e),s.waiting.Zc k (by intro e;cases e),s.inbox.Zc k (by intro e;cases e),by
  have:=s.ZA
  rw[hp]at this ⊢
  exact this,s.store⟩
theorem Mp {n:Nd} {a:NA} {ra ra':RA} (r:Option Jj) (h:a.Zi=some ra) (hb:ra'.rb=ra.rb):Xg { n with Zi:=r } { a with Zi:=some ra' } = Xg n a:=by
 unfold Xg UB
 simp only[h,RZ,hb]
def Zoh (i:Nat) (t:Tg):Prop:=t=.node i∨t=.prom i∨t=.Xf i
theorem uM (T:World) (h:Hp) (o:Ow) (wb i nb:Nat) (a:NA) (n:Nd) (acc:Qw) (vs:List Vt) (cur:Bool) (v:Value) (d:Uq o h)
  (N:ZJ o h wb i nb a n) (hp:n.ZA=none) (hv:Zfw o h i nb a.Zi v acc vs cur) :
  ∃b6 b4 b7 b5,v=Wu 119 [b6,b4,b7,b5]∧Zd Tryz.prog T 119 #[Zo b6,Zo b4,Zo b7,Zo b5] h fun v' h'=>∃o' a',Kp (Zoh i) o h o' h'∧ZJ o' h' wb i nb a' { n with own:=acc,Zi:=if cur=true then n.Zi.map (fun r=>{ r with prom:=ins r.prom n.me vs }) else n.Zi }:=by
 obtain⟨b6,b4,b7,b5,w,rb,rfl,⟨wa,xa,ia⟩,x4,x7,iv,x5,ZfF⟩:=hv
 obtain⟨pa,ca,rfl⟩:=ia.isSlice
 obtain⟨pw,cw,rfl⟩:=iv.isSlice
 refine⟨b6,b4,b7,b5,rfl,?_⟩
 have Wo:=Za N.ZF.2
 refine Zd.Zj (args:=[_,_,_,_]) Tryz.func119 rfl rfl rfl rfl ?_
 unfold Zo
 have r4:hc h ⟨b4,0,none⟩=some (Zo nb):=Zh x4.2
 have r6:rd h ⟨b6,0,none⟩ 3=some [.int .i64 acc.p.r,.int .i64 acc.p.n,.slice pa acc.l.length ca]:=Zp xa.2 rfl
 obtain⟨g1,w1,N1,k1⟩:=ZU.write (a:={ a with YQ:=.slice pa acc.l.length ca }) (n:={ n with own:=acc }) { N.pt with YQ:=ia } d N.ZF ((YT N.ZF.2 N.pt.store.len).own acc.p.r acc.p.n (.slice pa acc.l.length ca) rfl)
 unfold Zo at r4
 simp -implicitDefEqProofs only[go_sem,↓reduceIte,r4,r6,w1,Wo]
 have y4:=x4.Zc k1
 have y5:=x5.Zc k1
 have y7:=x7.Zc k1
 have q4:hc g1 ⟨b4,0,none⟩=some (Zo nb):=Zh y4.2
 have q5:hc g1 ⟨b5,0,none⟩=some (Zo rb):=Zh y5.2
 have q7:hc g1 ⟨b7,0,none⟩=some (.slice pw vs.length cw):=Zh y7.2
 unfold Zo at q4 q5
 have l4:=Za y4.2
 have l5:=Za y5.2
 have l7:=Za y7.2
 have R1:=Zx N1.ZF.2 N1.pt.store.len
 have lnb:=Za N1.ZF.2
 have uN:=iv.Zc k1
 refine VS.z (g1.size) [9] (.q 0 (.p 1 (.p 2 (.q 3 (.q 4 (.p 5 (.p 6 (.q 7 (.q 8 (.w 9 .nil)))))))))) mixed (by kernel_rfl) ?_
 cases cur with
 | true=>
  obtain⟨ra,Nq,rfl⟩:=ZfF
  have hR:=N1.pt.Zi
  have gX:({ a with YQ:=.slice pa acc.l.length ca }:NA).Zi=some ra:=Nq
  rw[gX]at hR
  cases hr:n.Zi with
  | none=>rw[show ({ n with own:=acc }:Nd).Zi=none from hr]at hR;exact hR.elim
  | some r=>
   rw[show ({ n with own:=acc }:Nd).Zi=some r from hr]at hR
   have hR:YL o i g1 ra r:=hR
   have rr:hc g1 ⟨ra.rb,2,none⟩=some (.map (some ra.pb)):=Zh hR.ZF.2
   have CK:=Za hR.ZF.2
   simp -implicitDefEqProofs only[go_sem,↓reduceIte,q4,q5,q7,l4,l5,l7,lnb,R1.me,rr,CK]
   rw[XP Mj hR.prom.2]
   simp -implicitDefEqProofs only[go_sem,↓reduceIte]
   obtain⟨k2,R2⟩:=hR.db k1.ZW (k:=n.me) uN
   have k2':Kp (XF i) o g1 o _:=k2.mono fun t q=>.inr (.inl q)
   refine⟨o,{ ({ a with YQ:=.slice pa acc.l.length ca }:NA) with Zi:=some { ra with pv:=ins ra.pv n.me (.slice pw vs.length cw) } },(k1.mono fun t q=>.inl q).trans (k2.mono fun t q=>.inr (.inl q)),?_,?_⟩
   ·have:=N1.ZF.Zc k2 (by intro e;cases e)
    rw[←Mp (some { r with prom:=ins r.prom n.me vs }) gX (ra':={ ra with pv:=ins ra.pv n.me (.slice pw vs.length cw) }) rfl]at this
    exact this
   ·exact ZU.Qr N1.pt k2' gX rfl R2
 | false=>
  obtain⟨cs,pb,pv,y1,y2,y3⟩:=ZfF
  have z1:=y1.Zc k1 (by intro e;cases e)
  have z3:=y3.Zc k1 (by intro e;cases e)
  have rr:hc g1 ⟨rb,2,none⟩=some (.map (some pb)):=by rw[Vv z1.2];exact y2
  have CK:=Za z1.2
  simp -implicitDefEqProofs only[go_sem,↓reduceIte,q4,q5,q7,l4,l5,l7,lnb,R1.me,rr,CK]
  rw[XP Mj z3.2]
  simp -implicitDefEqProofs only[go_sem,↓reduceIte]
  have k2:Kp (fun t=>t=.Xf i) o g1 o (g1.setIfInBounds pb (Xo (ins pv n.me (.slice pw vs.length cw)))):=(Kp.refl k1.ZW (fun t=>t=.Xf i)).set z3.1 rfl _
  exact⟨o,_,(k1.mono fun t q=>.inl q).trans (k2.mono fun t q=>.inr (.inr q)),N1.ZF.Zc k2 (by intro e;cases e),N1.pt.gW k2 hp⟩
end Go.Proofs.YtpomedigibbeeaaGreatDoor

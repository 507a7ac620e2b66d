/- The pieces of an act: setting a node, what a tape's records make, all letters come. -/
import Derived.Test.YtnhbpmoeaodmnaaGreatDoorMdg
import Derived.Test.YtnhbpmoeaodmnaaGreatDoorLchks
import Derived.Test.YtnhbpmoeaodmnaaGreatDoorPak
namespace Go.Proofs.YtnhbpmoeaodmnaaGreatDoor
open Go Go.V
set_option linter.unusedSimpArgs false
set_option linter.unusedVariables false
set_option maxRecDepth 100000
theorem ZyO {l:List Nat} {a r:Qt} {k j:Nat} (h:Rec l a k r j):∀f,l.length+1≤k+f→ZgW l f a k=(r,j):=by
 induction h with
 | stop e=>
  intro f hf
  cases f with
  | zero=>rfl
  | succ f=>unfold ZgW;rw[e]
 | @go a a' r k k' j e _ ih=>
  intro f hf
  have e':=e
  unfold Yk at e'
  split at e'
  ·rename_i q
   rw[Option.map_eq_some_iff]at e'
   obtain⟨x,_,hx⟩:=e'
   have hk:k'=k+(Ug l k+4):=(congrArg Prod.snd hx).symm
   cases f with
   | zero=>omega
   | succ f=>
    unfold ZgW
    rw[e]
    exact ih f (by omega)
  ·cases e'
theorem Zct {l:List Nat} {r:Qt} {k:Nat} (h:Rec l XR 0 r k):U0 l=(r,k):=ZyO h _ (by omega)
theorem ZiE {o:Ow} {h:Hp} {wb:Nat} {Z6:Nat→Nat} {YE:WA} {fl:List Y6} {bad:Nat→Int} {told:List Tld} (d:Dom o h) (W:ZF o h wb Z6 YE fl bad told) (i nb:Nat) (hi:i<5) :
  ∃b off c g,YE.nodes=.slice (some ⟨b,off,none⟩) 5 c∧Jp h ⟨b,off+i,none⟩ (Zn nb)=some g∧Kp (fun t=>t=.nodes) o h o g∧ZF o g wb (fun j=>if j=i then nb else Z6 j) YE fl bad told:=by
 rcases hw:W.nodes with⟨_,e,_⟩|⟨b,off,cap,pre,spare,g1,g2,g3,g4,g5,g6,g7⟩
 ·cases e
 have hw':Jp h ⟨b,off+i,none⟩ (Zn nb)=some (h.setIfInBounds b (.cells (pre++([Zn (Z6 0),Zn (Z6 1),Zn (Z6 2),Zn (Z6 3),Zn (Z6 4)].set i (Zn nb)++spare)).toArray 56)):=by
  rw[Yu g3,if_pos ⟨by simp only[List.length_append,List.length_cons];omega,rfl⟩]
  rw[←g4,List.set_append_right _ _ (by omega),Nat.add_sub_cancel_left,List.set_append_left _ _ (by simpa using hi)]
 have kk:Kp (fun t=>t=.nodes) o h o (h.setIfInBounds b (.cells (pre++([Zn (Z6 0),Zn (Z6 1),Zn (Z6 2),Zn (Z6 3),Zn (Z6 4)].set i (Zn nb)++spare)).toArray 56)):=(Kp.refl d (fun t=>t=.nodes)).set g1 rfl _
 refine⟨b,off,cap,_,g2,hw',kk,W.ZE.Zc kk (by intro e;cases e),?_,W.Zl.Zc kk (by intro e;cases e),W.told.Zc kk (by intro e;cases e)⟩
 refine .inr ⟨b,off,cap,pre,spare,g1,g2,?_,g4,rfl,g6,g7⟩
 rw[Zu g3]
 match i,hi with
 | 0,_=>rfl
 | 1,_=>rfl
 | 2,_=>rfl
 | 3,_=>rfl
 | 4,_=>rfl
def acC (k n a b:Int) (d:Value):List Value:=[.int .i64 k,.int .i64 n,.int .i64 a,.int .i64 b,d]
structure WOk (w:Wd):Prop where
 me:∀i,i<5→(w.nodes i).me=i
 step:∀i,i<5→ZnM (w.nodes i) w.Zl.length w.told.length
 queue:∀i,i<5→(w.nodes i).queue.length≤100000000000
 log:∀i,i<5→(w.nodes i).log.length≤100000000000
 waiting:∀i,i<5→(w.nodes i).waiting.length≤100000000000
 inbox:∀i,i<5→(w.nodes i).inbox.length≤100000000000
 data:∀i,i<5→(w.nodes i).data.length≤1000000
 told:w.told.length≤100000000000
 bad:∀i,i<5→0≤w.bad i∧w.bad i≤1000000000000
 ZGX:∀i,i<5→(w.nodes i).own.p.r≤1000000000000∧(w.nodes i).heard.r≤1000000000000 ∧ -1000000000000≤(w.nodes i).own.p.r ∧ -1000000000000≤(w.nodes i).heard.r
 rgn:∀i,i<5→∀r,(w.nodes i).Zh=some r→r.b.r≤1000000000000 ∧ -1000000000000≤r.b.r
 to:∀l∈w.Zl,0≤l.to∧l.to<5
 room:w.Zl.length≤100000000000
theorem X8.fresh {o o':Ow} {h h':Hp} {wb:Nat} {Z6:Nat→Nat} {YE:WA} {w:Wd} {i nb:Nat} {a:NA} {n:Nd} (A:X8 o h wb Z6 YE w) (k:Kp (fun t=>t=.nodes∨t.of=some i) o h o' h')
  (N:ZJ o' h' wb i nb a n) (W:ZF o' h' wb (fun j=>if j=i then nb else Z6 j) YE w.Zl w.bad w.told):X8 o' h' wb (fun j=>if j=i then nb else Z6 j) YE (w.set i n):=by
 refine⟨W,fun j hj=>?_⟩
 by_cases e:j=i
 ·subst e
  refine⟨a,?_⟩
  unfold Wd.set
  simpa using N
 ·obtain⟨b,M⟩:=A.nd j hj
  refine⟨b,?_⟩
  unfold Wd.set
  simp only[if_neg e]
  refine M.Zc k fun t q hq=>?_
  rcases q with rfl|q
  ·cases hq
  ·rw[hq]at q;exact e (Option.some.inj q)
theorem ZlE (w:Wd) (i:Nat):w.set i (w.nodes i)=w:=by
 unfold Wd.set
 have:(fun j=>if j=i then w.nodes i else w.nodes j)=w.nodes:=by
  funext j;split
  ·next e=>rw[e]
  ·rfl
 rw[this]
theorem Zha {o:Ow} {h':Hp} {p:Option Addr} {c:Nat} {L:List Nat} (d:Dom o h') (hb:Bs h' (.slice p L.length c) L) (hc:L.length≤c) (hf:∀b,ZT (.slice p L.length c)=some b→o b=none∧b<h'.size):ImB o h' (.slice p L.length c) L:=
 ⟨⟨hb.sl,⟨p,c,rfl,hc⟩,fun b q=>⟨(hf b q).2,(hf b q).1⟩⟩,hb.byte⟩
theorem ZlF {o:Ow} {h:Hp} {v:Value} {l:List Nat} {k:Nat} (d:Dom o h) (s:ImB o h v l) (hk:k<h.size) (hv:∀b,ZT v=some b→b≠k) (x:Obj):ImB o (h.setIfInBounds k x) v l:=by
 have d2:Dom (Jr o k Tg.nodes) h:=fun b hb=>by rw[Y2 (by omega)];exact d b hb
 have s2:ImB (Jr o k Tg.nodes) h v l:=⟨⟨s.1.sl,s.1.fits,fun b hb=>⟨(s.1.free b hb).1,by rw[Y2 (hv b hb)];exact (s.1.free b hb).2⟩⟩,s.2⟩
 have k2:Kp (fun t=>t=Tg.nodes) (Jr o k Tg.nodes) h (Jr o k Tg.nodes) (h.setIfInBounds k x):=(Kp.refl d2 (fun t=>t=Tg.nodes)).set YZ rfl x
 have s3:=s2.Zc k2
 exact⟨⟨s3.1.sl,s3.1.fits,fun b hb=>⟨(s3.1.free b hb).1,(s.1.free b hb).2⟩⟩,s3.2⟩
theorem ZnO (i:Nat) (n:Nd) (k:Int) (L:List Nat) (Z E:Int) (hu:n.up=true) (h:ZbX n.data n.Y4 k=(L,Z,E)):crashed i n k = { blank i true L Z XR with up:=false }:=by
 unfold crashed
 rw[if_pos hu]
 unfold ZbX at h
 by_cases c:YJ n.data n.Y4
 ·rw[if_pos (show n.data.length≤100000∧0≤n.Y4∧n.Y4≤n.data.length from c)]at h
  by_cases q:k<0
  ·rw[if_pos q]at h
   cases h
   rw[if_neg (fun e=>by have:=e.2;omega)];rfl
  ·rw[if_neg q]at h
   cases h
   rw[if_pos ⟨c,by omega⟩];rfl
 ·rw[if_neg (show ¬(n.data.length≤100000∧0≤n.Y4∧n.Y4≤n.data.length) from c)]at h
  cases h
  rw[if_neg (fun e=>c e.1)];rfl
theorem ZnP (w:Wd) (l:Y6) (i:Nat):((UM w l).nodes i).inbox.length≤(w.nodes i).inbox.length+1:=by
 unfold UM
 split
 ·unfold Wd.set
  simp only
  split
  ·next e=>subst e;simp
  ·omega
 ·omega
theorem ZlG (i:Nat):∀(ls:List Y6) (w:Wd),((ls.foldl UM w).nodes i).inbox.length≤(w.nodes i).inbox.length+ls.length:=by
 intro ls
 induction ls with
 | nil=>intro w;simp
 | cons l ls ih=>
  intro w
  have h1:=ih (UM w l)
  have h2:=ZnP w l i
  simp only[List.foldl_cons,List.length_cons]
  omega
def U3 (l:List Vt):Prop:=(∀x∈l,Z5 x)∧l.Pairwise (fun a b=>a.slot<b.slot)
structure AcI (a:Qt):Prop where
 bal:ZI a.p∨(a.p.r=0∧a.p.n=0)
 Xp:U3 a.l
def Zea (b:Yw):Prop:=0≤b.r∧b.r≤65536
theorem ZnQ:∀(l:List Vt) (a:Int),l.Pairwise (fun a b=>a.slot<b.slot)→(∀x∈l,a≤x.slot∧x.slot≤39)→a≤40→(l.length:Int)≤40-a:=by
 intro l
 induction l with
 | nil=>intro a _ _ h;simp;omega
 | cons x l ih=>
  intro a hp hx ha
  rw[List.pairwise_cons]at hp
  have h1:=hx x (by simp)
  have:=ih (x.slot+1) hp.2 (fun y hy=>⟨by have:=hp.1 y hy;omega,(hx y (by simp[hy])).2⟩) (by omega)
  simp only[List.length_cons]
  omega
theorem U3.len {l:List Vt} (h:U3 l):l.length≤40:=by
 have:=ZnQ l 0 h.2 (fun x hx=>⟨(h.1 x hx).1.1,(h.1 x hx).1.2⟩) (by omega)
 omega
theorem U3.nil:U3 []:=⟨fun x hx=>by (cases hx),.nil⟩
theorem U3.ins {l:List Vt} (h:U3 l) {v:Vt} (hv:Z5 v):U3 (Js l v):=by
 unfold Js
 refine⟨fun x hx=>?_,?_⟩
 ·rcases List.mem_append.1 hx with hx|hx
  ·exact h.1 x (List.mem_filter.1 hx).1
  ·rcases List.mem_cons.1 hx with rfl|hx
   ·exact hv
   ·exact h.1 x (List.mem_filter.1 hx).1
 ·rw[List.pairwise_append,List.pairwise_cons]
  refine⟨h.2.sublist List.filter_sublist,⟨fun y hy=>by simpa using (List.mem_filter.1 hy).2,h.2.sublist List.filter_sublist⟩,fun x hx y hy=>?_⟩
  have h1:x.slot<v.slot:=by simpa using (List.mem_filter.1 hx).2
  rcases List.mem_cons.1 hy with rfl|hy
  ·exact h1
  ·have h2:v.slot<y.slot:=by simpa using (List.mem_filter.1 hy).2
   omega
theorem AcI.zero:AcI XR:=⟨.inr ⟨rfl,rfl⟩,U3.nil⟩
theorem ZI.I {b:Yw} (h:ZI b):Zea b:=⟨by have:=h.1.1;omega,h.1.2⟩
theorem AcI.ZqX {a:Qt} (h:AcI a):Zea a.p:=by
 rcases h.bal with q|q
 ·exact q.I
 ·unfold Zea;omega
structure JI (C:List Cm) (l:Y6):Prop where
 kind:0≤l.kind∧l.kind≤7
 Jm:0≤l.Jm∧l.Jm<5
 to:0≤l.to∧l.to<5
 b:Zea l.b
 slot:0≤l.v.slot∧l.v.slot<40
 vs:U3 l.vs
 cmd:l.kind=4→l.v.cm∈C
def ZaM {β:Type} (m:Int) (l:List (Int × β)):Prop:=(l.map (·.1)).Nodup∧∀x∈l.map (·.1),0≤x∧x<m
theorem ZaM.nil {β:Type} (m:Int):ZaM m ([]:List (Int × β)):=⟨by simp,fun x hx=>by (cases hx)⟩
theorem ZaM.ins {β:Type} {m:Int} {l:List (Int × β)} (h:ZaM m l) {k:Int} (hk:0≤k∧k<m) (v:β):ZaM m (ins l k v):=by
 obtain⟨h1,h2⟩:=Zls (k:=k) (v:=v) h.1
 refine⟨h1,fun x hx=>?_⟩
 rcases h2 x hx with rfl|q
 ·exact hk
 ·exact h.2 x q
theorem ZqY:∀(m:Nat) (l:List Int),l.Nodup→(∀x∈l,0≤x∧x<(m:Int))→l.length≤m:=by
 intro m
 induction m with
 | zero=>
  intro l _ h
  cases l with
  | nil=>simp
  | cons x l=>have:=h x (by simp);omega
 | succ m ih=>
  intro l hn h
  have h1:=ih (l.erase (m:Int)) (hn.erase _) (fun x hx=>by
   have hx':=(List.Nodup.mem_erase_iff hn).1 hx
   have:=h x hx'.2
   have:x≠(m:Int):=hx'.1
   omega)
  have:l.length≤(l.erase (m:Int)).length+1:=by rw[List.length_erase];split<;>omega
  omega
theorem ZaM.len {β:Type} {m:Nat} {l:List (Int × β)} (h:ZaM (m:Int) l):l.length≤m:=by
 have:=ZqY m _ h.1 h.2
 simpa using this
structure Zde (r:Jg):Prop where
 b:Zea r.b
 prom:ZaM 5 r.prom
 vs:∀x∈r.prom,U3 x.2
 Za9:∀x∈r.Xp,ZaM 5 x.2
def ZBD:Pnd→Prop
 | .pro a to b vs=>AcI a∧(0≤to∧to<5)∧Zea b∧U3 vs
 | .vot a to v=>AcI a∧(0≤to∧to<5)∧Z5 v
 | .own a vs _=>AcI a∧U3 vs
structure JJ (C:List Cm) (i:Nat) (n:Nd):Prop where
 me:n.me=i
 Xg:0≤n.Xg∧n.Xg<5
 own:AcI n.own
 heard:Zea n.heard
 Zy:∀p,n.Zy=some p→ZBD p
 Zh:∀r,n.Zh=some r→Zde r
 known:ZaM 40 n.known
 log:∀j,j<n.log.length→(Yp n.known (j:Int)).isSome=true
 queue:n.queue.Nodup∧∀x∈n.queue,x∈C
 data:n.data.length≤100000
theorem JJ.ZjI {C:List Cm} {i:Nat} {n:Nd} (h:JJ C i n):n.log.length≤40:=by
 have h1:=Zlq n.known 0 n.log.length (fun j hj=>by simpa using h.log j hj)
 have h2:=h.known.len (m:=40)
 omega
theorem Zcu {p:Yw} {l:List Vt} {b:Yw} (h:Yo p l b=0):ZI b:=by
 unfold Yo at h
 by_cases c1:Xt p l≠0
 ·rw[if_pos c1]at h;cases h
 ·rw[if_neg c1]at h
  by_cases c2:¬ZI b
  ·rw[if_pos c2]at h;cases h
  ·simpa using c2
theorem ZeE {p:Yw} {l:List Vt} {x:Vt} (h:YG p l x=0):Z5 x:=by
 unfold YG at h
 by_cases c1:Xt p l≠0
 ·rw[if_pos c1]at h;cases h
 ·rw[if_neg c1]at h
  by_cases c2:¬Z5 x
  ·rw[if_pos c2]at h;cases h
  ·simpa using c2
theorem ZlH {l:List Nat} {n:Int} {k:Nat} (h:JA l n k=0):l.length+(k+5)≤100000:=by
 unfold JA at h
 by_cases c1:¬YJ l n
 ·rw[if_pos c1]at h;cases h
 ·rw[if_neg c1]at h
  by_cases c2:100000<l.length+(k+5)
  ·rw[if_pos c2]at h;cases h
  ·omega
theorem Zeb {l:List Nat} {n:Int} {b:Yw} (h:JS l n b=0):l.length+14≤100000:=by
 unfold JS at h
 by_cases c1:¬YJ l n
 ·rw[if_pos c1]at h;cases h
 ·rw[if_neg c1]at h
  by_cases c2:¬ZI b
  ·rw[if_pos c2]at h;cases h
  ·rw[if_neg c2]at h;exact ZlH h
theorem ZlI {l:List Nat} {n:Int} {x:Vt} (h:QT l n x=0):l.length+38≤100000:=by
 unfold QT at h
 by_cases c1:¬YJ l n
 ·rw[if_pos c1]at h;cases h
 ·rw[if_neg c1]at h
  by_cases c2:¬Z5 x
  ·rw[if_pos c2]at h;cases h
  ·rw[if_neg c2]at h;exact ZlH h
theorem ZfO (b:Yw):(Yj (XQ b)).length=14:=by rw[Uf];rfl
theorem ZoQ (x:Vt):(Yj (Qs x)).length=38:=by rw[Uf];rfl
structure ZbB (C:List Cm) (i:Nat) (n:Nd) (o:Out):Prop where
 nd:JJ C i o.n
 ls:∀l∈o.ls,JI C l
 few:o.ls.length≤1
 ts:o.ts.length+o.n.waiting.length≤n.waiting.length
theorem ZbB.same {C:List Cm} {i:Nat} {n:Nd} (h:JJ C i n):ZbB C i n ⟨n,[],[]⟩:=⟨h,(fun l hl=>by cases hl),by simp,by simp⟩
theorem ZbB.one {C:List Cm} {i:Nat} {n:Nd} (h:JJ C i n) {l:Y6} (hl:JI C l):ZbB C i n ⟨n,[l],[]⟩:=⟨h,fun x hx=>by
 have:x=l:=by simpa using hx
 rw[this];exact hl,by simp,by simp⟩
theorem ZnR {C:List Cm} {i:Nat} {n:Nd} {l:Y6} (hi:i<5) (h:JJ C i n) (hl:JI C l):ZbB C i n (YW n l):=by
 have me5:0≤(n.me:Int)∧(n.me:Int)<5:=by rw[h.me];omega
 have v0:0≤vt0.slot∧vt0.slot<40:=by decide
 unfold YW
 by_cases c1:Yo n.own.p n.own.l l.b≠0
 ·rw[if_pos c1]
  exact ZbB.one h ⟨by simp,me5,hl.Jm,h.own.ZqX,v0,U3.nil,fun e=>by cases e⟩
 rw[if_neg c1]
 have hb:ZI l.b:=Zcu (by simpa using c1)
 by_cases c2:n.own.p=l.b
 ·rw[if_pos c2]
  exact ZbB.one h ⟨by simp,me5,hl.Jm,hl.b,v0,h.own.Xp,fun e=>by cases e⟩
 rw[if_neg c2]
 by_cases c3:JS n.data n.Y4 l.b≠0
 ·rw[if_pos c3];exact ZbB.same h
 rw[if_neg c3]
 have hd:=Zeb (by simpa using c3)
 refine⟨{ h with Zy:=?_,data:=?_ },(fun x hx=>by cases hx),by simp,by simp⟩
 ·intro p hp
  obtain rfl:=Option.some.inj hp
  exact⟨⟨.inl hb,h.own.Xp⟩,hl.Jm,hb.I,h.own.Xp⟩
 ·show (n.data++Yj (XQ l.b)).length≤100000
  rw[List.length_append,ZfO];exact hd
theorem Zwq {C:List Cm} {i:Nat} {n:Nd} {l:Y6} (hi:i<5) (h:JJ C i n) (hl:JI C l):ZbB C i n (asked n l):=by
 have me5:0≤(n.me:Int)∧(n.me:Int)<5:=by rw[h.me];omega
 have v0:0≤vt0.slot∧vt0.slot<40:=by decide
 unfold asked
 by_cases c1:YG n.own.p n.own.l l.v≠0
 ·rw[if_pos c1]
  exact ZbB.one h ⟨by simp,me5,hl.Jm,h.own.ZqX,v0,U3.nil,fun e=>by cases e⟩
 rw[if_neg c1]
 have hv:Z5 l.v:=ZeE (by simpa using c1)
 by_cases c2:l.v∈n.own.l
 ·rw[if_pos c2]
  exact ZbB.one h ⟨by simp,me5,hl.Jm,by unfold Zea Jf;simp,hl.slot,U3.nil,fun e=>by cases e⟩
 rw[if_neg c2]
 by_cases c3:QT n.data n.Y4 l.v≠0
 ·rw[if_pos c3];exact ZbB.same h
 rw[if_neg c3]
 have hd:=ZlI (by simpa using c3)
 refine⟨{ h with Zy:=?_,data:=?_ },(fun x hx=>by cases hx),by simp,by simp⟩
 ·intro p hp
  obtain rfl:=Option.some.inj hp
  exact⟨⟨.inl hv.2.1,h.own.Xp.ins hv⟩,hl.Jm,hv⟩
 ·show (n.data++Yj (Qs l.v)).length≤100000
  rw[List.length_append,ZoQ];exact hd
theorem Zt0 {C:List Cm} {i:Nat} {n:Nd} {x:Cm} (h:JJ C i n) (hx:Yp n.known (n.log.length:Int)=some x):JJ C i (UW n x)∧(Zbx n x).length+(UW n x).waiting.length≤n.waiting.length:=by
 refine⟨{ h with log:=?_,queue:=?_ },?_⟩
 ·intro j hj
  have hj':j<(n.log++[x]).length:=hj
  show (Yp n.known (j:Int)).isSome=true
  rw[List.length_append,List.length_singleton]at hj'
  by_cases e:j<n.log.length
  ·exact h.log j e
  ·have:j=n.log.length:=by omega
   subst this
   rw[hx];rfl
 ·exact⟨h.queue.1.sublist List.filter_sublist,fun y hy=>h.queue.2 y (List.mem_filter.1 hy).1⟩
 ·show (Zbx n x).length+(n.waiting.erase x).length≤n.waiting.length
  unfold Zbx
  by_cases c:x∈n.waiting
  ·rw[if_pos c,List.length_erase_of_mem c]
   have:=List.length_pos_of_mem c
   simp;omega
  ·rw[if_neg c,List.erase_of_not_mem c];simp
theorem ZqZ {C:List Cm} {i:Nat}:∀(k:Nat) (n:Nd),JJ C i n→JJ C i (Yy k n).1∧(Yy k n).2.length+(Yy k n).1.waiting.length≤n.waiting.length:=by
 intro k
 induction k with
 | zero=>intro n h;exact⟨h,by simp[Yy]⟩
 | succ k ih=>
  intro n h
  unfold Yy
  cases hx:Yp n.known (n.log.length:Int) with
  | none=>exact⟨h,by simp⟩
  | some x=>
   obtain⟨h1,h2⟩:=Zt0 h hx
   obtain⟨h3,h4⟩:=ih _ h1
   refine⟨h3,?_⟩
   simp only[List.length_append]
   omega
theorem ZoR {C:List Cm} {i:Nat} {n:Nd} (h:JJ C i n) (s:Int) (x:Cm) (hs:0≤s∧s<40):ZbB C i n (UX n s x):=by
 have h1:JJ C i (QU n s x):={ h with
  known:=h.known.ins hs x
  log:=fun j hj=>by
   show (Yp (ins n.known s x) (j:Int)).isSome=true
   rw[Jk]
   split
   ·rfl
   ·exact h.log j hj }
 obtain⟨h2,h3⟩:=ZqZ ((QU n s x).known.length+1) (QU n s x) h1
 exact⟨h2,(fun l hl=>by cases hl),by simp[UX],h3⟩
theorem Zhb {β:Type}:∀{l:List (Int × β)} {k:Int} {v:β} {x:Int × β},x∈ins l k v→x.2=v∨x∈l:=by
 intro l
 induction l with
 | nil=>
  intro k v x hx
  left
  have:x=(k,v):=by simpa [ins] using hx
  rw[this]
 | cons y l ih=>
  intro k v x hx
  obtain⟨a,b⟩:=y
  unfold ins at hx
  split at hx
  ·rcases List.mem_cons.1 hx with rfl|hx
   ·exact .inl rfl
   ·exact .inr (by simp[hx])
  ·rcases List.mem_cons.1 hx with rfl|hx
   ·exact .inr (by simp)
   ·rcases ih hx with q|q
    ·exact .inl q
    ·exact .inr (by simp[q])
theorem ZnS {C:List Cm} {i:Nat} {n:Nd} {l:Y6} (hi:i<5) (h:JJ C i n) (hl:JI C l):ZbB C i n (Yv n l):=by
 unfold Yv
 cases hr:n.Zh with
 | none=>exact ZbB.same h
 | some r=>
  have R:=h.Zh r hr
  have hs:∀r',(Zfw n r l).Zh=some r'→Zde r':=by
   intro r' hr'
   obtain rfl:=Option.some.inj hr'
   refine⟨R.b,R.prom,R.vs,fun x hx=>?_⟩
   rcases Zhb hx with q|q
   ·rw[q]
    unfold UY
    refine ZaM.ins ?_ hl.Jm ()
    cases hk:Yp r.Xp l.v.slot with
    | none=>exact ZaM.nil 5
    | some s=>exact R.Za9 _ (Zcj hk)
   ·exact R.Za9 x q
  have hv:JJ C i (Zfw n r l):={ h with Zh:=hs }
  simp only
  split
  ·split
   ·refine⟨{ h with Zh:=fun r' hr'=>?_ },(fun x hx=>by cases hx),by simp,by simp[Zyv]⟩
    obtain rfl:=Option.some.inj hr'
    refine⟨R.b,R.prom.ins hl.Jm l.vs,fun x hx=>?_,R.Za9⟩
    rcases Zhb hx with q|q
    ·rw[q];exact hl.vs
    ·exact R.vs x q
   ·exact ZbB.same h
  ·split
   ·exact ZbB.same h
   ·split
    ·have:=ZoR hv l.v.slot l.v.cm hl.slot
     exact⟨this.nd,this.ls,this.few,this.ts⟩
    ·exact⟨hv,(fun x hx=>by cases hx),by simp,by simp[Zfw]⟩
theorem Zxi {C:List Cm} {i:Nat} {n:Nd} {x:Cm} (h:JJ C i n) (hx:x∈C):JJ C i (add n x):=by
 unfold add
 split
 ·exact h
 ·rename_i q
  refine { h with queue:=⟨?_,fun y hy=>?_⟩ }
  ·show (n.queue++[x]).Nodup
   rw[List.nodup_append]
   refine⟨h.queue.1,by simp,fun a ha b hb e=>?_⟩
   have:b=x:=by simpa using hb
   exact q (.inl (by rw[←this,←e];exact ha))
  ·have hy:y∈n.queue++[x]:=hy
   rcases List.mem_append.1 hy with hy|hy
   ·exact h.queue.2 y hy
   ·have:y=x:=by simpa using hy
    rw[this];exact hx
theorem ZoS {C:List Cm} {i:Nat} {n:Nd} {l:Y6} (h:JJ C i n) (hl:JI C l):JJ C i (notes n l):=by
 unfold notes
 split
 ·exact { h with heard:=hl.b }
 ·exact h
theorem Zwr {C:List Cm} {i:Nat} {n:Nd} {l:Y6} (hi:i<5) (h:JJ C i n) (hl:JI C l):ZbB C i n (Zat n l):=by
 have me5:0≤(n.me:Int)∧(n.me:Int)<5:=by rw[h.me];omega
 have hn:=ZoS h hl
 have hw:(notes n l).waiting=n.waiting:=by unfold notes;split<;>rfl
 unfold Zat
 split
 ·next y _=>
  refine⟨hn,fun x hx=>?_,by simp,by simp[hw]⟩
  have:x=⟨6,n.me,l.Jm,Jf,ZbI l.v.slot Jf y,[]⟩:=by simpa using hx
  rw[this]
  exact⟨by simp,me5,hl.Jm,by unfold Zea Jf;simp,hl.slot,U3.nil,fun e=>by cases e⟩
 ·exact⟨hn,(fun x hx=>by cases hx),by simp,by simp[hw]⟩
theorem Zhc {C:List Cm} {i:Nat} {n:Nd} {l:Y6} (hi:i<5) (h:JJ C i n) (hl:JI C l):ZbB C i n (handle n l):=by
 have hw:(notes n l).waiting=n.waiting:=by unfold notes;split<;>rfl
 unfold handle
 split
 ·exact ZnR hi h hl
 split
 ·exact ZnS hi h hl
 split
 ·exact Zwq hi h hl
 split
 ·rename_i e
  refine⟨Zxi h (hl.cmd e),(fun x hx=>by cases hx),by simp,?_⟩
  have:(add n l.v.cm).waiting=n.waiting:=by unfold add;split<;>rfl
  simp[this]
 split
 ·exact Zwr hi h hl
 split
 ·exact ZoR h _ _ hl.slot
 ·exact⟨ZoS h hl,(fun x hx=>by cases hx),by simp,by simp[hw]⟩
theorem JJ.inbox {C:List Cm} {i:Nat} {n:Nd} (h:JJ C i n) (k:List Y6):JJ C i { n with inbox:=k }:={ h with }
theorem ZoT {C:List Cm} {i:Nat} (hi:i<5):∀(k:List Y6) (n:Nd),JJ C i n→(∀l∈k,JI C l) →
  JJ C i (drain n k).n∧(∀l∈(drain n k).ls,JI C l)∧(∀l∈(drain n k).n.inbox,JI C l)∧(drain n k).ls.length+(drain n k).n.inbox.length≤k.length∧(drain n k).ts.length+(drain n k).n.waiting.length≤n.waiting.length:=by
 intro k
 induction k with
 | nil=>
  intro n h _
  unfold drain
  exact⟨h.inbox [],(fun x hx=>by cases hx),(fun x hx=>by cases hx),by simp,by simp⟩
 | cons l k ih=>
  intro n h hk
  unfold drain
  split
  ·exact⟨h.inbox _,(fun x hx=>by cases hx),hk,by simp,by simp⟩
  ·have o:=Zhc hi (h.inbox k) (hk l (by simp))
   obtain⟨h1,h2,h3,h4,h5⟩:=ih _ o.nd (fun x hx=>hk x (by simp[hx]))
   have ots:=o.ts
   have of:=o.few
   refine⟨h1,fun x hx=>?_,h3,?_,?_⟩
   ·rcases List.mem_append.1 hx with hx|hx
    ·exact o.ls x hx
    ·exact h2 x hx
   ·simp only[List.length_append,List.length_cons];omega
   ·simp only[List.length_append]
    have:({ n with inbox:=k }:Nd).waiting=n.waiting:=rfl
    rw[this]at ots
    omega
theorem Zcv:∀{l C:List Cm},l.Nodup→(∀x∈l,x∈C)→l.length≤C.length:=by
 intro l
 induction l with
 | nil=>intro C _ _;simp
 | cons x l ih=>
  intro C hn hs
  rw[List.nodup_cons]at hn
  have hx:=hs x (by simp)
  have h1:=ih (C:=C.erase x) hn.2 (fun y hy=>by
   have Ys:y≠x:=fun e=>hn.1 (by rw[←e];exact hy)
   exact (List.mem_erase_of_ne Ys).2 (hs y (by simp[hy])))
  rw[List.length_erase_of_mem hx]at h1
  have:=List.length_pos_of_mem hx
  simp only[List.length_cons]
  omega
theorem JJ.hand {C:List Cm} {i:Nat} {n:Nd} {l:Y6} (h:JJ C i n) (hl:JI C l) (hC:C.length≤100000) (hw:n.waiting.length≤100000) {f t:Nat} (hf:f≤100000000000) (ht:t≤1000000):ZnL n l f t:=by
 have ZhP:=h.ZjI
 have hkn:=h.known.len (m:=40)
 have hq:n.queue.length≤C.length:=Zcv h.queue.1 h.queue.2
 refine⟨hl.kind,by omega,by have:=h.own.Xp.len;omega,by have:=h.data;omega,by omega,by omega,by omega,by omega,by omega,fun r s hr=>?_⟩
 cases hk:Yp r.Xp s with
 | none=>simp
 | some x=>
  have:=(h.Zh r hr).Za9 _ (Zcj hk)
  have:x.length≤5:=this.len (m:=5)
  simp only[Option.getD_some]
  omega
theorem JJ.dut {C:List Cm} {i:Nat} {n:Nd} (h:JJ C i n) (hC:C.length≤100000) {f:Nat} (hf:f≤100000000000):ZtW n f:=by
 have ZhP:=h.ZjI
 have hq:n.queue.length≤C.length:=Zcv h.queue.1 h.queue.2
 refine⟨by omega,by have:=h.own.Xp.len;omega,by have:=h.data;omega,fun r hr=>?_,by omega,by omega,h.Xg⟩
 have R:=h.Zh r hr
 have hp:r.prom.length≤5:=R.prom.len (m:=5)
 refine⟨fun x hx=>by have:=(R.vs x hx).len;omega,fun x hx v hv=>?_,by omega⟩
 have:=((R.vs x hx).1 v hv).1.2
 omega
theorem Zt1 {C:List Cm} {i:Nat} (hi:i<5) (hC:C.length≤100000):∀(k:List Y6) (n:Nd),JJ C i n→(∀l∈k,JI C l)→n.waiting.length≤100000→∀f t,f+k.length≤100000000000→t+n.waiting.length≤1000000→Zcs n k f t:=by
 intro k
 induction k with
 | nil=>intro n _ _ _ f t _ _;exact trivial
 | cons l k ih=>
  intro n h hk hw f t hf ht
  simp only[List.length_cons]at hf
  unfold Zcs
  by_cases hp:n.Zy.isSome=true
  ·exact .inl hp
  ·have o:=Zhc hi (h.inbox k) (hk l (by simp))
   have ots:=o.ts
   have of:=o.few
   have:({ n with inbox:=k }:Nd).waiting=n.waiting:=rfl
   rw[this]at ots
   exact .inr ⟨(h.inbox k).hand (hk l (by simp)) hC hw (by omega) (by omega),ih _ o.nd (fun x hx=>hk x (by simp[hx])) (by omega) _ _ (by omega) (by omega)⟩
theorem Zt2 {C:List Cm} {i:Nat} {n:Nd} (hi:i<5) (hC:C.length≤100000) (h:JJ C i n) (hk:∀l∈n.inbox,JI C l) (hw:n.waiting.length≤100000) {f t:Nat} (hf:f+n.inbox.length≤100000000000) (ht:t+n.waiting.length≤1000000):ZnM n f t:=by
 obtain⟨h1,h2,h3,h4,h5⟩:=ZoT hi n.inbox n h hk
 exact⟨by have:=h.data;omega,by omega,fun _=>Zt1 hi hC n.inbox n h hk hw f t hf ht,fun _ _=>h1.dut hC (by omega)⟩
theorem Zws {n:Nd} {r:Jg} {x:Cm} (R:Zde r):Zde (UZ n r x):=by
 unfold UZ
 split
 ·exact⟨R.b,R.prom,R.vs,R.Za9⟩
 ·exact R
theorem Zq0 {n:Nd}:∀(l:List Cm) (r:Jg),Zde r→Zde (Jn n r l):=by
 intro l
 induction l with
 | nil=>intro r R;exact R
 | cons x l ih=>intro r R;exact ih _ (Zws R)
theorem Zwt {n:Nd} {r:Jg} (R:Zde r):Zde (Uh n r):=by
 unfold Uh
 refine Zq0 _ _ ?_
 split
 ·exact R
 ·exact⟨R.b,R.prom,R.vs,R.Za9⟩
theorem ZjJ:Zea Jf:=by unfold Zea Jf;simp
theorem ZyP {C:List Cm} {i:Nat} {n:Nd} {r:Jg} (hi:i<5) (h:JJ C i n) (R:Zde r):JJ C i (QH n r).n∧(∀l∈(QH n r).ls,JI C l)∧(QH n r).n.inbox=n.inbox∧(QH n r).n.waiting=n.waiting:=by
 have me5:0≤(n.me:Int)∧(n.me:Int)<5:=by rw[h.me];omega
 have v0:0≤vt0.slot∧vt0.slot<40:=by decide
 unfold QH
 split
 ·split
  ·exact⟨h,(fun x hx=>by cases hx),rfl,rfl⟩
  ·rename_i hd
   have hd:=Zeb (by simpa using hd)
   refine⟨{ h with Zy:=?_,data:=?_ },(fun x hx=>by cases hx),rfl,rfl⟩
   ·intro p hp
    obtain rfl:=Option.some.inj hp
    by_cases c:Yo n.own.p n.own.l r.b=0
    ·simp only[c,if_true]
     exact⟨⟨.inl (Zcu c),h.own.Xp⟩,h.own.Xp⟩
    ·simp only[c,if_false]
     exact⟨AcI.zero,U3.nil⟩
   ·show (n.data++Yj (XQ r.b)).length≤100000
    rw[List.length_append,ZfO];exact hd
 ·split
  ·refine⟨h,fun l hl=>?_,rfl,rfl⟩
   unfold ZeA at hl
   simp only[List.mem_flatMap,List.mem_range]at hl
   obtain⟨m,hm,hl⟩:=hl
   split at hl
   ·have:l=⟨0,n.me,m,r.b,vt0,[]⟩:=by simpa using hl
    rw[this]
    exact⟨by simp,me5,by simp only;omega,R.b,v0,U3.nil,fun e=>by cases e⟩
   ·cases hl
  ·refine⟨{ h with Zh:=fun r' hr'=>?_ },fun l hl=>?_,rfl,rfl⟩
   ·obtain rfl:=Option.some.inj hr'
    exact Zwt R
   ·unfold Zd4 at hl
    simp only[List.mem_flatMap,List.mem_range]at hl
    obtain⟨s,hs,hl⟩:=hl
    unfold Zab at hl
    split at hl
    ·split at hl
     ·simp only[List.mem_flatMap,List.mem_range]at hl
      obtain⟨m,hm,hl⟩:=hl
      unfold Zc8 at hl
      split at hl
      ·next x _ _ _=>
       have:l=⟨2,n.me,m,Jf,ZbI s (Uh n r).b x,[]⟩:=by simpa using hl
       rw[this]
       exact⟨by simp,me5,by simp only;omega,ZjJ,by simp only[ZbI];omega,U3.nil,fun e=>by cases e⟩
      ·cases hl
     ·cases hl
    ·cases hl
theorem ZoU {C:List Cm} {i:Nat} {n:Nd} (h:JJ C i n):JJ C i (still n)∧(still n).inbox=n.inbox∧(still n).waiting=n.waiting:=by
 unfold still
 split
 ·split
  ·exact⟨{ h with Zh:=fun r hr=>by cases hr },rfl,rfl⟩
  ·exact⟨h,rfl,rfl⟩
 ·exact⟨h,rfl,rfl⟩
theorem Zwu {C:List Cm} {i:Nat} {n:Nd} (hi:i<5) (h:JJ C i n):JJ C i (Yz n).n∧(∀l∈(Yz n).ls,JI C l)∧(Yz n).n.inbox=n.inbox∧(Yz n).n.waiting=n.waiting:=by
 have me5:0≤(n.me:Int)∧(n.me:Int)<5:=by rw[h.me];omega
 unfold Yz
 split
 ·next r hr=>exact ZyP hi h (h.Zh r hr)
 ·split
  ·rename_i q
   refine⟨h,fun l hl=>?_,rfl,rfl⟩
   unfold Za6 at hl
   simp only[List.mem_map]at hl
   obtain⟨x,hx,rfl⟩:=hl
   have hb:ZI n.own.p:=by
    rcases h.own.bal with e|e
    ·exact e
    ·have:=q.1;omega
   exact⟨by simp,me5,by simp only;have:=hb.2;omega,ZjJ,by simp[ZbI],U3.nil,fun _=>h.queue.2 x hx⟩
  ·exact⟨h,(fun x hx=>by cases hx),rfl,rfl⟩
theorem Zwv {C:List Cm} {i:Nat} {n:Nd} (h:JJ C i n):Zea (Uq n):=by
 unfold Uq;split
 ·exact h.heard
 ·exact h.own.ZqX
theorem Zt3 {C:List Cm} {i:Nat} {n:Nd} (hi:i<5) (hC:C.length≤100000) (h:JJ C i n):JJ C i (ZaI n).n∧(∀l∈(ZaI n).ls,JI C l)∧(ZaI n).n.inbox=n.inbox∧(ZaI n).n.waiting=n.waiting∧(ZaI n).ls.length≤100201∧(ZaI n).ts=[]:=by
 obtain⟨s1,s2,s3⟩:=ZoU h
 obtain⟨d1,d2,d3,d4⟩:=Zwu hi s1
 have hq:(still n).queue.length≤C.length:=Zcv s1.queue.1 s1.queue.2
 have hls:=Zlz (still n)
 unfold ZaI
 split
 ·exact⟨d1,d2,by rw[d3,s2],by rw[d4,s3],by omega,(Zdd _).2.2.2.2.2⟩
 ·have tt:0≤((Yz (still n)).n.Xg+1)%5∧((Yz (still n)).n.Xg+1)%5<5:=by omega
  have t1:JJ C i (Qc (Yz (still n)).n):={ d1 with Xg:=tt }
  have me5:0≤((Qc (Yz (still n)).n).me:Int)∧((Qc (Yz (still n)).n).me:Int)<5:=by rw[t1.me];omega
  refine⟨t1,fun l hl=>?_,by show (Yz (still n)).n.inbox=_;rw[d3,s2],by show (Yz (still n)).n.waiting=_;rw[d4,s3],?_,rfl⟩
  ·rcases List.mem_append.1 hl with hl|hl
   ·exact d2 l hl
   ·unfold ZaH at hl
    split at hl
    ·rename_i q
     have:l=⟨5,(Qc (Yz (still n)).n).me,(Qc (Yz (still n)).n).Xg,Uq (Qc (Yz (still n)).n),ZbI (Qc (Yz (still n)).n).log.length Jf cm0,[]⟩:=by simpa using hl
     rw[this]
     exact⟨by simp,me5,t1.Xg,Zwv t1,by simp only[ZbI];have:=q.2;omega,U3.nil,fun e=>by cases e⟩
    ·cases hl
  ·have:(ZaH (Qc (Yz (still n)).n)).length≤1:=by unfold ZaH;split<;>simp
   simp only[List.length_append]
   omega
theorem ZlJ {C:List Cm} {i:Nat} {n:Nd} (h:JJ C i n):JJ C i (synced n):=by
 refine { h with Zy:=(fun p hp=>by cases hp),data:=?_ }
 show (if YJ n.data n.Y4 then n.data else []).length≤100000
 split
 ·exact h.data
 ·simp
theorem ZlK {C:List Cm} {i:Nat} {n:Nd} {p:Pnd} (hi:i<5) (h:JJ C i n) (P:ZBD p):JJ C i (finish n p).n∧(∀l∈(finish n p).ls,JI C l)∧(finish n p).n.inbox=n.inbox∧(finish n p).n.waiting=n.waiting∧(finish n p).ls.length≤1∧(finish n p).ts=[]:=by
 have me5:0≤(n.me:Int)∧(n.me:Int)<5:=by rw[h.me];omega
 have v0:0≤vt0.slot∧vt0.slot<40:=by decide
 cases p with
 | pro a to b vs=>
  obtain⟨p1,p2,p3,p4⟩:=P
  refine⟨{ h with own:=p1 },fun l hl=>?_,rfl,rfl,by simp[finish],rfl⟩
  have:l=⟨1,n.me,to,b,vt0,vs⟩:=by simpa [finish] using hl
  rw[this]
  exact⟨by simp,me5,p2,p3,v0,p4,fun e=>by cases e⟩
 | vot a to v=>
  obtain⟨p1,p2,p3⟩:=P
  refine⟨{ h with own:=p1 },fun l hl=>?_,rfl,rfl,by simp[finish],rfl⟩
  have:l=⟨3,n.me,to,Jf,v,[]⟩:=by simpa [finish] using hl
  rw[this]
  exact⟨by simp,me5,p2,ZjJ,by have:=p3.1;simp only;omega,U3.nil,fun e=>by cases e⟩
 | own a vs cur=>
  obtain⟨p1,p2⟩:=P
  refine⟨{ h with own:=p1,Zh:=fun r hr=>?_ },(fun x hx=>by cases hx),rfl,rfl,by simp[finish],rfl⟩
  have hr:(if cur=true then n.Zh.map (fun r=>{ r with prom:=ins r.prom n.me vs }) else n.Zh)=some r:=hr
  split at hr
  ·rw[Option.map_eq_some_iff]at hr
   obtain⟨r0,h0,rfl⟩:=hr
   have R:=h.Zh r0 h0
   refine⟨R.b,R.prom.ins me5 vs,fun x hx=>?_,R.Za9⟩
   rcases Zhb hx with q|q
   ·rw[q];exact p2
   ·exact R.vs x q
  ·exact h.Zh r hr
theorem ZyQ {C:List Cm} {i:Nat} {n:Nd} (hi:i<5) (hC:C.length≤100000) (h:JJ C i n) (hk:∀l∈n.inbox,JI C l) :
  JJ C i (step n).n∧(∀l∈(step n).ls,JI C l)∧(∀l∈(step n).n.inbox,JI C l)∧(step n).ls.length+(step n).n.inbox.length≤n.inbox.length+100201∧(step n).ts.length+(step n).n.waiting.length≤n.waiting.length:=by
 unfold step
 split
 ·cases hp:n.Zy with
  | some p=>
   obtain⟨f1,f2,f3,f4,f5,f6⟩:=ZlK hi (ZlJ h) (h.Zy p hp)
   refine⟨f1,f2,by simp only;rw[f3];exact hk,?_,?_⟩
   ·simp only;rw[f3];show _+n.inbox.length≤_;omega
   ·simp only;rw[f4,f6];show 0+n.waiting.length≤_;omega
  | none=>
   obtain⟨d1,d2,d3,d4,d5⟩:=ZoT hi n.inbox n h hk
   simp only
   split
   ·exact⟨d1,d2,d3,by omega,d5⟩
   ·obtain⟨e1,e2,e3,e4,e5,e6⟩:=Zt3 hi hC d1
    refine⟨e1,fun l hl=>?_,by simp only;rw[e3];exact d3,?_,?_⟩
    ·rcases List.mem_append.1 hl with hl|hl
     ·exact d2 l hl
     ·exact e2 l hl
    ·simp only[List.length_append];rw[e3];omega
    ·simp only;rw[e4,e6,List.append_nil];exact d5
 ·exact⟨h,(fun x hx=>by cases hx),hk,by simp,by simp⟩
theorem ZyR {a a':Qt} {b:List Nat} (h:Xu a b=some a') (ha:AcI a):AcI a':=by
 unfold Xu at h
 split at h
 ·split at h
  ·rename_i q
   cases h
   exact⟨.inl (Zcu q),ha.Xp⟩
  ·cases h
 ·split at h
  ·split at h
   ·cases h
   ·split at h
    ·rename_i q
     cases h
     have hv:=ZeE q
     exact⟨.inl hv.2.1,ha.Xp.ins hv⟩
    ·cases h
  ·cases h
theorem Zww (l:List Nat):∀(f:Nat) (a:Qt) (k:Nat),AcI a→AcI (ZgW l f a k).1:=by
 intro f
 induction f with
 | zero=>intro a k h;exact h
 | succ f ih=>
  intro a k h
  unfold ZgW
  cases hs:Yk l a k with
  | none=>exact h
  | some x=>
   refine ih _ _ ?_
   unfold Yk at hs
   split at hs
   ·rw[Option.map_eq_some_iff]at hs
    obtain⟨y,hy,rfl⟩:=hs
    exact ZyR hy h
   ·cases hs
theorem Zt4 (l:List Nat):AcI (U0 l).1:=Zww l _ _ _ AcI.zero
theorem ZfP {C:List Cm} {i:Nat} {up:Bool} {data:List Nat} {Y4:Int} {own:Qt} (hd:data.length≤100000) (ho:AcI own):JJ C i (blank i up data Y4 own):=
 ⟨rfl,by unfold blank;simp,ho,ZjJ,(fun p hp=>by cases hp),(fun r hr=>by cases hr),ZaM.nil 40,(fun j hj=>by cases hj),⟨by simp[blank],(fun x hx=>by cases hx)⟩,hd⟩
theorem Zq1 {C:List Cm} {i:Nat} {n:Nd} (h:JJ C i n) (Zc:Int):JJ C i (crashed i n Zc)∧((crashed i n Zc).inbox=[]∧(crashed i n Zc).waiting=[]∨crashed i n Zc=n):=by
 unfold crashed
 split
 ·split
  ·refine⟨ZfP ?_ AcI.zero,.inl ⟨rfl,rfl⟩⟩
   have:=h.data
   rw[List.length_take];omega
  ·exact⟨ZfP (by simp) AcI.zero,.inl ⟨rfl,rfl⟩⟩
 ·exact⟨h,.inr rfl⟩
theorem ZiF {C:List Cm} {i:Nat} {n:Nd} (h:JJ C i n):JJ C i (started i n)∧((started i n).inbox=[]∧(started i n).waiting=[]∨started i n=n):=by
 unfold started
 split
 ·exact⟨h,.inr rfl⟩
 ·refine⟨ZfP ?_ ?_,.inl ⟨rfl,rfl⟩⟩
  ·unfold ZgX
   have:=h.data
   split
   ·rw[List.length_take];omega
   ·simp
  ·split
   ·exact Zt4 _
   ·exact AcI.zero
theorem Zt5 {C:List Cm} {i:Nat} {n:Nd} (h:JJ C i n):JJ C i (lead n)∧(lead n).inbox=n.inbox∧(lead n).waiting=n.waiting:=by
 unfold lead
 split
 ·exact⟨h,rfl,rfl⟩
 ·rename_i q
  refine⟨{ h with Zy:=?_,Zh:=fun r hr=>?_ },rfl,rfl⟩
  ·intro p hp
   have hp:Xb n.Zy=some p:=hp
   cases hn:n.Zy with
   | none=>rw[hn]at hp;cases hp
   | some p0=>
    have P:=h.Zy p0 hn
    rw[hn]at hp
    cases p0 with
    | pro a to b vs=>cases hp;exact P
    | vot a to v=>cases hp;exact P
    | own a vs cur=>cases hp;exact P
  ·obtain rfl:=Option.some.inj hr
   refine⟨⟨?_,?_⟩,ZaM.nil 5,(fun x hx=>by cases hx),(fun x hx=>by cases hx)⟩
   ·have h1:=h.own.ZqX.1
    show 0≤(Xv n).r
    unfold Xv
    simp only
    split<;>omega
   ·have:¬65536<(Xv n).r:=fun e=>q (.inr e)
    show (Xv n).r≤65536
    omega
def Zdf (f:Nat→Nat):Nat:=f 0+f 1+f 2+f 3+f 4
theorem Zt6 (f:Nat→Nat) (i a:Nat) (hi:i<5):Zdf (fun j=>if j=i then a else f j)+f i=Zdf f+a:=by
 unfold Zdf
 match i,hi with
 | 0,_=>simp;omega
 | 1,_=>simp;omega
 | 2,_=>simp;omega
 | 3,_=>simp;omega
 | 4,_=>simp;omega
theorem ZoV (f:Nat→Nat) (i:Nat) (hi:i<5):f i≤Zdf f:=by
 unfold Zdf
 match i,hi with
 | 0,_=>omega
 | 1,_=>omega
 | 2,_=>omega
 | 3,_=>omega
 | 4,_=>omega
structure WI (C:List Cm) (k:Nat) (w:Wd):Prop where
 nd:∀i,i<5→JJ C i (w.nodes i)
 inb:∀i,i<5→∀l∈(w.nodes i).inbox,JI C l
 fly:∀l∈w.Zl,JI C l
 room:w.Zl.length+Zdf (fun i=>(w.nodes i).inbox.length)≤k*100300
 wait:w.told.length+Zdf (fun i=>(w.nodes i).waiting.length)≤k
 bad:∀i,0≤w.bad i∧w.bad i≤k
theorem Zec (w:Wd) (i:Nat) (n:Nd) (g:Nd→Nat) (hi:i<5):Zdf (fun j=>g (if j=i then n else w.nodes j))+g (w.nodes i)=Zdf (fun j=>g (w.nodes j))+g n:=by
 have:=Zt6 (fun j=>g (w.nodes j)) i (g n) hi
 have e:(fun j=>g (if j=i then n else w.nodes j))=(fun j=>if j=i then g n else g (w.nodes j)):=by
  funext j;split<;>rfl
 rw[e];exact this
theorem WI.out {C:List Cm} {k:Nat} {w:Wd} (h:WI C k w) {i:Nat} (hi:i<5) {o:Out} (h1:JJ C i o.n) (h2:∀l∈o.ls,JI C l) (h3:∀l∈o.n.inbox,JI C l) (h4:o.ls.length+o.n.inbox.length≤(w.nodes i).inbox.length+100300) (h5:o.ts.length+o.n.waiting.length≤(w.nodes i).waiting.length+1):WI C (k+1) (w.out i o):=by
 unfold Wd.out
 refine⟨fun j hj=>?_,fun j hj l hl=>?_,fun l hl=>?_,?_,?_,fun j=>by have:=h.bad j;simp only;omega⟩
 ·by_cases e:j=i
  ·subst e;simpa using h1
  ·simp only[if_neg e];exact h.nd j hj
 ·by_cases e:j=i
  ·subst e;simp only[if_true]at hl;exact h3 l hl
  ·simp only[if_neg e]at hl;exact h.inb j hj l hl
 ·rcases List.mem_append.1 hl with hl|hl
  ·exact h.fly l hl
  ·exact h2 l hl
 ·have:=Zec w i o.n (fun n=>n.inbox.length) hi
  have hr:=h.room
  simp only[List.length_append]at this ⊢
  omega
 ·have:=Zec w i o.n (fun n=>n.waiting.length) hi
  have hr:=h.wait
  simp only[List.length_append]at this ⊢
  omega
theorem Zau (w:Wd) (i:Nat) (n:Nd):w.set i n=w.out i ⟨n,[],[]⟩:=by
 unfold Wd.set Wd.out
 simp
theorem WI.more {C:List Cm} {k:Nat} {w:Wd} (h:WI C k w):WI C (k+1) w:=
 ⟨h.nd,h.inb,h.fly,Nat.le_trans h.room (Nat.mul_le_mul_right _ (Nat.le_succ k)),Nat.le_trans h.wait (Nat.le_succ k),fun i=>⟨(h.bad i).1,by have:=(h.bad i).2;omega⟩⟩
theorem WI.ok {C:List Cm} {k:Nat} {w:Wd} (h:WI C k w) (hC:C.length≤100000) (hk:k≤100000):WOk w:=by
 have hr:=h.room
 have hw:=h.wait
 have hib:∀i,i<5→(w.nodes i).inbox.length+w.Zl.length≤10030000000:=fun i hi=>by
  have:(w.nodes i).inbox.length≤_:=ZoV (fun i=>(w.nodes i).inbox.length) i hi
  omega
 have hwt:∀i,i<5→(w.nodes i).waiting.length+w.told.length≤100000:=fun i hi=>by
  have:(w.nodes i).waiting.length≤_:=ZoV (fun i=>(w.nodes i).waiting.length) i hi
  omega
 refine⟨fun i hi=>(h.nd i hi).me,fun i hi=>Zt2 hi hC (h.nd i hi) (h.inb i hi) (by have:=hwt i hi;omega) (by have:=hib i hi;omega) (by have:=hwt i hi;omega),fun i hi=>?_,fun i hi=>?_,fun i hi=>?_,fun i hi=>?_,fun i hi=>?_,?_,fun i hi=>?_,fun i hi=>?_,fun i hi r hr=>?_,fun l hl=>(h.fly l hl).to,?_⟩
 ·have:=Zcv (h.nd i hi).queue.1 (h.nd i hi).queue.2;omega
 ·have:=(h.nd i hi).ZjI;omega
 ·have:=hwt i hi;omega
 ·have:=hib i hi;omega
 ·have:=(h.nd i hi).data;omega
 ·have:=hwt 0 (by omega);omega
 ·have:=h.bad i;omega
 ·have h1:=(h.nd i hi).own.ZqX
  have h2:=(h.nd i hi).heard
  unfold Zea at h1 h2
  omega
 ·have h1:=((h.nd i hi).Zh r hr).b
  unfold Zea at h1
  omega
 ·have:=hib 0 (by omega);omega
set_option maxHeartbeats 8000000 in
theorem ZyS (T:World) (h:Hp) (o:Ow) (wb:Nat) (Z6:Nat→Nat) (YE:WA) (w:Wd) (a:Ac) (dv:Value) (d:Dom o h) (A:X8 o h wb Z6 YE w) (ok:WOk w) (hk:1≤a.kind∧a.kind≤9) (hi:a.node<5) (iv:ImB o h dv a.data) (hrl:a.data.length≤140737488355328) (tb:Tbs o h) :
  Zd Tryz.prog T 15 #[Zn wb,.agg (acC a.kind a.node a.at' a.Zc dv).toArray] h fun v' h'=>∃o' Xq ZGY,Kp Zbd o h o' h'∧X8 o' h' wb ZGY Xq (act w a):=by
 obtain⟨pd,cd,hdv,JO⟩:=iv.1.fits
 have Zlg:Cap dv:=by rw[hdv];exact JO
 subst hdv
 refine Zd.Zi (args:=[_,_]) Tryz.func15 rfl rfl rfl rfl ?_
 unfold Zn acC
 obtain⟨h1,YF⟩:=Zx (h.push (.cells (acC a.kind a.node a.at' a.Zc (.slice pd a.data.length cd)).toArray 46):Hp)
 have k1:Kp J9 o h o h1:=by rw[YF];exact ZV d _
 have x3:ZM o h1 h.size (.cells (acC a.kind a.node a.at' a.Zc (.slice pd a.data.length cd)).toArray 46):=⟨d _ (Nat.le_refl _),by rw[YF];exact Zb⟩
 have e0:=YF.symm
 unfold acC at e0
 have A1:=A.still k1
 have tb1:=tb.Zc k1
 have R1:=YY A1.wd.ZE.2
 have Rn:=R1.nodes
 obtain⟨b,off,c,hn,hc5,hb,hrd⟩:=U2 A1.wd
 rw[hn]at Rn
 have hwb:=Za A1.wd.ZE.2
 have q0:hc h1 ⟨h.size,0,none⟩=some (.int .i64 a.kind):=Zg x3.2
 have q1:hc h1 ⟨h.size,1,none⟩=some (.int .i64 a.node):=Zg x3.2
 have q2:hc h1 ⟨h.size,2,none⟩=some (.int .i64 a.at'):=Zg x3.2
 have q3:hc h1 ⟨h.size,3,none⟩=some (.int .i64 a.Zc):=Zg x3.2
 have q4:hc h1 ⟨h.size,4,none⟩=some (.slice pd a.data.length cd):=Zg x3.2
 have l3:=Za x3.2
 have ri:=hrd a.node hi
 unfold Zn at ri
 have hi5:(a.node:Int)<5:=by omega
 obtain⟨na,N1⟩:=A1.nd a.node hi
 have hnb:=Za N1.ZE.2
 have iv1:=iv.Zc k1
 have Zg6:a.kind=1∨a.kind=2∨a.kind=3∨(a.kind=4∨a.kind=5∨a.kind=6)∨a.kind=7∨a.kind=8∨a.kind=9:=by omega
 rcases Zg6 with e|e|e|e|e|e|e
 ·-- a command
  have ea:act w a=Zc9 w a.node a.data:=by unfold act;rw[if_pos e]
  rw[ea]
  rw[e]at q0
  have cs:=ZqV T h1 o wb Z6 YE w a.node a.data (.slice pd a.data.length cd) k1.ZU A1 hi (ok.me _ hi) iv1 Zlg hrl tb1 (by have:=ok.queue _ hi;omega) (by have:=ok.log _ hi;omega) (by have:=ok.waiting _ hi;omega) (by have:=ok.told;omega) (ok.bad _ hi)
  unfold Zn at cs
  simp -implicitDefEqProofs only[go_sem,↓reduceIte,e0,q0]
  refine VS.z (h1.size) [11] (.p 0 (.p 1 (.p 2 (.p 3 (.q 4 (.p 5 (.q 6 (.p 7 (.q 8 (.p 9 (.q 10 (.w 11 .nil)))))))))))) mixed (by kernel_rfl) ?_
  simp -implicitDefEqProofs only[go_sem,↓reduceIte,Rn,q1,q4,hwb,l3,hb,hi5,ri]
  refine cs.use ?_
  rintro v' g ⟨o',Xq,kk,A'⟩
  simp -implicitDefEqProofs only[go_sem,↓reduceIte]
  exact⟨o',Xq,Z6,(Yb k1).trans kk,A'⟩
 ·-- to lead
  have ea:act w a=w.set a.node (lead (w.nodes a.node)):=by unfold act;rw[if_neg (by omega),if_pos e]
  rw[ea]
  rw[e]at q0
  have cs:=Zwo T h1 o wb a.node (Z6 a.node) na (w.nodes a.node) k1.ZU N1 (ok.ZGX _ hi) (ok.rgn _ hi)
  unfold Zn at cs
  simp -implicitDefEqProofs only[go_sem,↓reduceIte,e0,q0]
  refine VS.z (h1.size) [9] (.p 0 (.p 1 (.p 2 (.p 3 (.q 4 (.p 5 (.q 6 (.p 7 (.q 8 (.w 9 .nil)))))))))) mixed (by kernel_rfl) ?_
  simp -implicitDefEqProofs only[go_sem,↓reduceIte,Rn,q1,hwb,l3,hb,hi5,ri]
  refine cs.use ?_
  rintro v' g ⟨o',a',kk,N'⟩
  simp -implicitDefEqProofs only[go_sem,↓reduceIte]
  exact⟨o',YE,Z6,(Yb k1).trans (Yb kk),A1.Xg (kk.mono fun t q=>.inr (.inr (.inr q))) N' (A1.wd.Zc kk fun t q e=>by rw[q]at e;cases e)⟩
 ·-- a step
  have ea:act w a=w.out a.node (step (w.nodes a.node)):=by unfold act;rw[if_neg (by omega),if_neg (by omega),if_pos e]
  rw[ea]
  rw[e]at q0
  have cs:=ZtX T h1 o wb a.node (Z6 a.node) Z6 na (w.nodes a.node) YE w.Zl w.bad w.told k1.ZU N1 A1.wd tb1 (ok.step _ hi)
  unfold Zn at cs
  simp -implicitDefEqProofs only[go_sem,↓reduceIte,e0,q0]
  refine VS.z (h1.size) [9] (.p 0 (.p 1 (.p 2 (.p 3 (.q 4 (.p 5 (.q 6 (.p 7 (.q 8 (.w 9 .nil)))))))))) mixed (by kernel_rfl) ?_
  simp -implicitDefEqProofs only[go_sem,↓reduceIte,Rn,q1,hwb,l3,hb,hi5,ri]
  refine cs.use ?_
  rintro v' g ⟨o',a',Xq,kk,N',W'⟩
  simp -implicitDefEqProofs only[go_sem,↓reduceIte]
  exact⟨o',Xq,Z6,(Yb k1).trans (Yb kk),A1.Xg kk N' W'⟩
 ·-- a letter
  have ea:act w a=pick w a.at' (decide (a.kind≠5)) (decide (a.kind=6)):=by unfold act;rw[if_neg (by omega),if_neg (by omega),if_neg (by omega),if_pos e]
  rw[ea]
  have cs:=ZtY T h1 o wb Z6 YE w a.at' (decide (a.kind≠5)) (decide (a.kind=6)) k1.ZU A1 ok.to (by have:=ok.room;omega) (fun j hj=>by have:=ok.inbox j hj;omega)
  unfold Zn at cs
  rcases e with e|e|e
  all_goals
   rw[e]at q0 cs ⊢
   rw[e]at e0
   simp -implicitDefEqProofs only[go_sem,↓reduceIte,e0,q0,q2]
   refine cs.use ?_
   rintro v' g ⟨o',Xq,kk,A'⟩
   simp -implicitDefEqProofs only[go_sem,↓reduceIte]
   exact⟨o',Xq,Z6,(Yb k1).trans kk,A'⟩
 ·-- all Zwp
  have ea:act w a=w.Zl.foldl UM { w with Zl:=[] }:=by unfold act;rw[if_neg (by omega),if_neg (by omega),if_neg (by omega),if_neg (by omega),if_pos e]
  rw[ea]
  rw[e]at q0
  have Yn:=ok.room
  obtain⟨pf,cf,hf,hfc⟩:=Zbe A1.wd.Zl
  have Rf:=R1.Zl
  rw[hf]at Rf
  obtain⟨g2,w2,W2,k2⟩:=A1.wd.ZiD (fl':=[]) (v:=.slice none 0 0) (Kp.refl k1.ZU (fun t=>t=.Zl)) ⟨[],rfl,YA.nil _ _ _ _ _,fun x hx=>by cases hx⟩ (R1.ZjD (.slice none 0 0) rfl)
  have A2:X8 o g2 wb Z6 { YE with Zl:=.slice none 0 0 } { w with Zl:=[] }:=A1.Zwj k2 (by rintro t rfl;rfl) W2
  have L2:QJ o .Zl g2 (.slice pf w.Zl.length cf) w.Zl:=by rw[←hf];exact A1.wd.Zl.Zc k2 (by intro e;cases e)
  have K2:Kp Zbd o h o g2:=(Yb k1).trans (Yb k2)
  simp -implicitDefEqProofs only[go_sem,↓reduceIte,e0,q0,Rf,hwb,w2]
  refine VS.ZW (fun F g=>F 0=.pointer (some ⟨wb,0,none⟩)∧F 118=.slice pf w.Zl.length cf∧F 119=.int .i64 w.Zl.length∧∃(j:Nat) (o':Ow),j≤w.Zl.length∧F 120=.int .i64 j∧Kp Zbd o h o' g∧X8 o' g wb Z6 { YE with Zl:=.slice none 0 0 } ((w.Zl.take j).foldl UM { w with Zl:=[] })∧QJ o' .Zl g (.slice pf w.Zl.length cf) w.Zl)
   (fun F _=>w.Zl.length-(vi (F 120)).toNat) rfl ⟨rfl,rfl,rfl,0,o,Nat.zero_le _,rfl,K2,A2,L2⟩ ?_
  rintro F3 g3 ⟨f0,f118,f119,j,o3,hj,f120,K3,A3,L3⟩
  by_cases ZD:j<w.Zl.length
  ·have ZL:(j:Int)<w.Zl.length:=by omega
   obtain⟨v,b3,ZL1,c3,hv,hvc,hb3,ZyT,iv3⟩:=ZoP L3 j ZD
   simp only[Value.slice.injEq]at hv
   obtain⟨rfl,_,rfl⟩:=hv
   obtain⟨l,hl⟩:=Zx (w.Zl[j])
   rw[←hl]at ZyT iv3
   have hlm:l∈w.Zl:=by rw[hl];exact List.getElem_mem ZD
   obtain⟨pw,cw,rfl⟩:=iv3.isSlice
   obtain⟨g4,hg4⟩:=Zx (g3.push (.cells (YX l (.slice pw l.vs.length cw)).toArray 98):Hp)
   have k4:Kp J9 o3 g3 o3 g4:=by rw[hg4];exact ZV K3.ZU _
   have x6:ZM o3 g4 g3.size (.cells (YX l (.slice pw l.vs.length cw)).toArray 98):=⟨K3.ZU _ (Nat.le_refl _),by rw[hg4];exact Zb⟩
   have e4:=hg4.symm
   have r6:rd g4 ⟨g3.size,0,none⟩ 14=some (YX l (.slice pw l.vs.length cw)):=Zo x6.2 rfl
   obtain⟨wj,hwj⟩:=Zx ((w.Zl.take j).foldl UM { w with Zl:=[] })
   rw[←hwj]at A3
   have YN:(w.Zl.take (j+1)).foldl UM { w with Zl:=[] } = UM wj l:=by
    rw[Yi _ j ZD,←hl,List.foldl_append,←hwj];rfl
   have cc:=ZjH T g4 o3 wb Z6 _ wj l (.slice pw l.vs.length cw) k4.ZU (A3.still k4) (iv3.Zc k4) (ok.to l hlm) (fun i hi=>by
    have h1:=ZlG i (w.Zl.take j) { w with Zl:=[] }
    rw[←hwj,List.length_take]at h1
    have h2:=ok.inbox i hi
    have h3:=ok.room
    have h4:(({ w with Zl:=[] }:Wd).nodes i).inbox.length=(w.nodes i).inbox.length:=rfl
    omega)
   unfold Zn YX at cc
   unfold YX at e4 r6 ZyT
   simp -implicitDefEqProofs only[go_sem,↓reduceIte,f0,f118,f119,f120,ZL,ZyT,e4,r6]
   refine cc.use ?_
   rintro v' g5 ⟨o5,k5,A5⟩
   simp -implicitDefEqProofs only[go_sem,↓reduceIte,f120]
   unfold Xo
   refine⟨⟨f0,f118,f119,j+1,o5,ZD,rfl,(K3.trans (Yb k4)).trans (Yb k5),by rw[YN];exact A5,(L3.Zc k4 (fun q=>q.elim)).Zc k5 (by rintro⟨_,e⟩;cases e)⟩,?_⟩
   simp only[vi,Zk,↓reduceIte,f120];omega
  ·have YK:¬(j:Int)<w.Zl.length:=by omega
   obtain rfl:j=w.Zl.length:=by omega
   rw[List.take_of_length_le (Nat.le_refl _)]at A3
   simp -implicitDefEqProofs only[go_sem,↓reduceIte,f119,f120,YK]
   exact⟨o3,_,Z6,K3,A3⟩
 ·-- a ZAF
  have ea:act w a=w.set a.node (crashed a.node (w.nodes a.node) a.Zc):=by unfold act;rw[if_neg (by omega),if_neg (by omega),if_neg (by omega),if_neg (by omega),if_neg (by omega),if_pos e]
  rw[ea]
  rw[e]at q0
  obtain⟨n,hn0⟩:=Zx (w.nodes a.node)
  have ZyU:=ok.data _ hi
  rw[←hn0]at N1 ZyU
  have P1:=Zw N1.ZE.2 N1.pt.store.len
  have P1u:=P1.up
  simp -implicitDefEqProofs only[go_sem,↓reduceIte,e0,q0]
  refine VS.mono (N:=fun F' g'=>Zf h1.size h1 g'∧F' 0=.pointer (some ⟨wb,0,none⟩)∧F' 3=.pointer (some ⟨h.size,0,none⟩)∧F' 7=.pointer (some ⟨Z6 a.node,0,none⟩)) ?_ ?_ (fun _ _ _ h=>h) (fun _ _ h=>h)
  ·refine VS.z (h1.size) [] (.p 0 (.p 1 (.p 2 (.q 3 (.p 4 (.q 5 (.p 6 (.q 7 (.p 8 .nil))))))))) mixed (by kernel_rfl) ?_
   simp -implicitDefEqProofs only[go_sem,↓reduceIte,Rn,q1,hwb,l3,hb,hi5,ri]
   try exact Zf.refl _ _
  rintro F2 g2 ⟨b2,f0,f3,f7⟩
  have kb2:=ZB k1.ZU b2
  have A2:=A1.still kb2
  have N2:=N1.still kb2
  have K2:=k1.trans kb2
  have y3:=x3.Zc kb2
  have P2:=Zw N2.ZE.2 N2.pt.store.len
  have P2u:=P2.up
  have JH:=Za N2.ZE.2
  clear P1 P1u
  cases hu:n.up with
  | false=>
   rw[hu]at P2u
   have e1:crashed a.node (w.nodes a.node) a.Zc=w.nodes a.node:=by unfold crashed;rw[←hn0,if_neg (by rw[hu];simp)]
   rw[e1,ZlE]
   simp -implicitDefEqProofs only[go_sem,↓reduceIte,f7,P2u]
   exact⟨o,YE,Z6,Yb K2,A2⟩
  | true=>
   rw[hu]at P2u
   obtain⟨pt,ct,hpt⟩:=N2.pt.data.1.isSlice
   have hpt:na.data=.slice pt n.data.length ct:=hpt
   have P2t:=P2.tape
   rw[hpt]at P2t
   have ND:=N2.pt.data
   rw[hpt]at ND
   obtain⟨L,Z,E,hLZ⟩:∃L Z E,ZbX n.data n.Y4 a.Zc=(L,Z,E):=⟨_,_,_,rfl⟩
   have q3:hc g2 ⟨h.size,3,none⟩=some (.int .i64 a.Zc):=Zg y3.2
   have l3:=Za y3.2
   have call:∀G,Zf g2.size g2 G→Zd Tryz.prog T 28 #[.agg #[.slice pt n.data.length ct,.int .i64 n.Y4],.int .i64 a.Zc] G fun v' h'=>Zf G.size G h'∧Zor G.size h' v' (L,Z,E):=fun G hG=>by
    rw[←hLZ];exact ZsK T G _ n.Y4 a.Zc n.data (ND.bs.Z9 hG) (by omega)
   have wT:∀(G:Hp) (k:Nat) (m:Int) (p:Option Addr) (L c:Nat),G[k]? = some (.cells [.slice none 0 0,.int .i64 0].toArray 58)→wr G ⟨k,0,none⟩ [.slice p L c,.int .i64 m]=some (G.setIfInBounds k (.cells [.slice p L c,.int .i64 m].toArray 58)):=fun G k m p L c hx=>by
    rw[ZQ hx 0 _];rfl
   rw[ZnO a.node (w.nodes a.node) a.Zc L Z E (by rw[←hn0];exact hu) (by rw[←hn0];exact hLZ)]
   simp -implicitDefEqProofs only[go_sem,↓reduceIte,f7,P2u]
   refine VS.mono (N:=fun F' g'=>F' 0=.pointer (some ⟨wb,0,none⟩)∧F' 3=.pointer (some ⟨h.size,0,none⟩)∧Zf g2.size g2 g'∧∃kt p c,F' 8=.pointer (some ⟨kt,0,none⟩)∧g'[kt]? = some (.cells [.slice p L.length c,.int .i64 Z].toArray 58)∧ImB o g' (.slice p L.length c) L) ?_ ?_ (fun _ _ _ h=>h) (fun _ _ h=>h)
   ·refine VS.z (g2.size) [6,11] (.p 0 (.p 1 (.p 2 (.q 3 (.p 4 (.q 5 (.or 6 (.p 7 (.p 8 (.p 9 (.s 10 (.w 11 (.p 12 .nil)))))) (.s 10 (.w 6 (.p 7 (.p 8 (.p 9 (.w 11 (.p 12 .nil)))))))))))))) mixed (by kernel_rfl) ?_
    simp -implicitDefEqProofs only[go_sem,↓reduceIte,f0,f3,f7,P2t,q3,JH,l3]
    repeat' (first|with_reducible exact Zf.refl _ _|with_reducible exact Zf.push (by omega) _|with_reducible refine And.intro ?_ ?_)
    all_goals first
     | (refine (call g2 (Zf.refl _ _)).use ?_
        rintro _ g5 ⟨b5,p5,c5,L',Z',E',hz,rfl,bs,hcc,hbl⟩
        cases hz
        have s5:=b5.size
        have kk:=ZB K2.ZU b5
        have im:ImB o g5 (.slice p5 L.length c5) L:=Zha kk.ZU bs hcc fun b hb=>⟨K2.ZU b (hbl b hb).1,(hbl b hb).2⟩
        simp -implicitDefEqProofs only[go_sem,↓reduceIte,b5]
        exact⟨f0,f3,_,_,_,rfl,Zb,im.Zc (ZV kk.ZU _)⟩)
     | (refine (call (g2.push (.cells _ 58)) (Zf.push (Nat.le_refl _) _)).use ?_
        rintro _ g5 ⟨b5,p5,c5,L',Z',E',hz,rfl,bs,hcc,hbl⟩
        cases hz
        have B5:Zf g2.size g2 g5:=(Zf.push (Nat.le_refl _) _).trans (b5.mono (by simp))
        have xA:=b5.get (k:=g2.size) (by simp) Zb
        have wA5:=wT _ _ Z p5 L.length c5 xA
        have zA:=Za xA
        have kk:=ZB K2.ZU B5
        have im:ImB o g5 (.slice p5 L.length c5) L:=Zha kk.ZU bs hcc fun b hb=>⟨K2.ZU b (by have:=(hbl b hb).1;rw[Array.size_push]at this;omega),(hbl b hb).2⟩
        have ks:=ZlF kk.ZU im zA (fun b hb=>by have:=(hbl b hb).1;rw[Array.size_push]at this;omega) (.cells [.slice p5 L.length c5,.int .i64 Z].toArray 58)
        simp -implicitDefEqProofs only[go_sem,↓reduceIte,B5,wA5,zA]
        exact⟨f0,f3,_,_,_,rfl,Zu xA,ks⟩)
   clear f0 f3 f7
   rintro F3 g3 ⟨f0,f3,b3,kt,p3,c3,f8,yt,im3⟩
   have kb3:=ZB K2.ZU b3
   have K3:=K2.trans kb3
   have A3:=A2.still kb3
   have z3:=y3.Zc kb3
   obtain⟨b,off,c,hn,hc5,hb,hrd⟩:=U2 A3.wd
   have R3:=YY A3.wd.ZE.2
   have Rn:=R3.nodes
   rw[hn]at Rn
   have hwb:=Za A3.wd.ZE.2
   have q1:hc g3 ⟨h.size,1,none⟩=some (.int .i64 a.node):=Zg z3.2
   have l3:=Za z3.2
   have rt:rd g3 ⟨kt,0,none⟩ 2=some [.slice p3 L.length c3,.int .i64 Z]:=Zo yt rfl
   have lt:=Za yt
   have cb:Zd Tryz.prog T 22 #[.int .i64 a.node,.agg #[.slice p3 L.length c3,.int .i64 Z],.agg #[.int .i64 0,.int .i64 0,.slice none 0 0]] g3 _:=Zg8 T g3 o wb a.node (.slice p3 L.length c3) L Z (.slice none 0 0) XR K3.ZU im3 (Im.nil _ _ _ _)
   refine VS.z (g3.size) [12] (.p 0 (.p 1 (.p 2 (.q 3 (.p 4 (.q 5 (.p 6 (.q 7 (.q 8 (.p 9 (.s 10 (.p 11 (.w 12 .nil))))))))))))) mixed (by kernel_rfl) ?_
   simp -implicitDefEqProofs only[go_sem,↓reduceIte,f0,f3,f8,Rn,q1,rt,hwb,l3,lt,hb,hi5]
   refine cb.use ?_
   rintro _ g4 ⟨nb,o4,a4,rfl,b4,k4,N4⟩
   have W4:=A3.wd.Zc k4 (by rintro t (rfl|rfl)<;>simp[Tg.of])
   obtain⟨b',ZGZ,c',g5,hn',w5,k5,W5⟩:=ZiE k4.ZU W4 a.node nb hi
   rw[hn]at hn'
   simp only[Value.slice.injEq,Option.some.injEq,Addr.mk.injEq,true_and,and_true]at hn'
   obtain⟨⟨rfl,rfl⟩,rfl⟩:=hn'
   have hb4:b<g4.size:=Nat.lt_of_lt_of_le hb b4.size
   have N5:=N4.Zc k5 (by rintro t rfl e;cases e)
   have K5:Kp Zbd o h o4 g5:=((Yb K3).trans (Yb k4)).trans (Yb k5)
   have z5:=(z3.Zc k4).Zc k5
   unfold Zn at w5 ⊢
   simp -implicitDefEqProofs only[go_sem,↓reduceIte,b4,w5,hb4,hi5]
   have R5:=YY W5.ZE.2
   have R5n:=R5.nodes
   rw[hn]at R5n
   obtain⟨b'',ZJl,c'',ZyV,_,hb5,ZG0⟩:=U2 W5
   rw[hn]at ZyV
   simp only[Value.slice.injEq,Option.some.injEq,Addr.mk.injEq,true_and,and_true]at ZyV
   obtain⟨⟨rfl,rfl⟩,rfl⟩:=ZyV
   have ri5:=ZG0 a.node hi
   simp only[↓reduceIte]at ri5
   unfold Zn at ri5
   have ZnN:=Za W5.ZE.2
   have q15:hc g5 ⟨h.size,1,none⟩=some (.int .i64 a.node):=Zg z5.2
   have l35:=Za z5.2
   have Zdc:=Za N5.ZE.2
   obtain⟨g6,w6,N6,k6⟩:=ZS.write (n:={ blank a.node true L Z XR with up:=false }) (a:=a4) { N5.pt with } K5.ZU N5.ZE ((YP N5.ZE.2 N5.pt.store.len).up false)
   refine VS.z (g5.size) [10] (.p 0 (.p 1 (.p 2 (.q 3 (.p 4 (.q 5 (.p 6 (.q 7 (.p 8 (.p 9 (.w 10 .nil))))))))))) mixed (by kernel_rfl) ?_
   simp -implicitDefEqProofs only[go_sem,↓reduceIte,f0,f3,R5n,q15,ZnN,l35,hb5,hi5,ri5,Zdc,w6]
   have kk:Kp (fun t=>t=.nodes∨t.of=some a.node) o g3 o4 g6:=((k4.mono fun t q=>by rcases q with rfl|rfl<;>exact .inr rfl).trans (k5.mono fun t q=>.inl q)).trans (k6.mono fun t q=>.inr (by rw[q];rfl))
   exact⟨o4,YE,_,K5.trans (Yb k6),A3.fresh kk N6 (W5.Zc k6 (by rintro t rfl;simp[Tg.of]))⟩
 ·-- a start
  have ea:act w a=w.set a.node (started a.node (w.nodes a.node)):=by unfold act;rw[if_neg (by omega),if_neg (by omega),if_neg (by omega),if_neg (by omega),if_neg (by omega),if_neg (by omega)]
  rw[ea]
  rw[e]at q0
  obtain⟨n,hn0⟩:=Zx (w.nodes a.node)
  have ZyU:=ok.data _ hi
  rw[←hn0]at N1 ZyU
  simp -implicitDefEqProofs only[go_sem,↓reduceIte,e0,q0]
  refine VS.mono (N:=fun F' g'=>Zf h1.size h1 g'∧F' 0=.pointer (some ⟨wb,0,none⟩)∧F' 3=.pointer (some ⟨h.size,0,none⟩)∧F' 10=.pointer (some ⟨Z6 a.node,0,none⟩)) ?_ ?_ (fun _ _ _ h=>h) (fun _ _ h=>h)
  ·refine VS.z (h1.size) [] (.p 0 (.p 1 (.p 2 (.q 3 (.p 4 (.q 5 (.p 6 (.q 7 (.p 8 .nil))))))))) mixed (by kernel_rfl) ?_
   simp -implicitDefEqProofs only[go_sem,↓reduceIte,Rn,q1,hwb,l3,hb,hi5,ri]
   try exact Zf.refl _ _
  rintro F2 g2 ⟨b2,f0,f3,f10⟩
  have kb2:=ZB k1.ZU b2
  have A2:=A1.still kb2
  have N2:=N1.still kb2
  have K2:=k1.trans kb2
  have tb2:=tb1.Zc kb2
  have y3:=x3.Zc kb2
  have P2:=Zw N2.ZE.2 N2.pt.store.len
  have P2u:=P2.up
  have JH:=Za N2.ZE.2
  cases hu:n.up with
  | true=>
   rw[hu]at P2u
   have e1:started a.node (w.nodes a.node)=w.nodes a.node:=by unfold started;rw[←hn0,if_pos hu]
   rw[e1,ZlE]
   simp -implicitDefEqProofs only[go_sem,↓reduceIte,f10,P2u]
   exact⟨o,YE,Z6,Yb K2,A2⟩
  | false=>
   rw[hu]at P2u
   obtain⟨pt,ct,hpt,hct⟩:=N2.pt.data.1.fits
   have hpt:na.data=.slice pt n.data.length ct:=hpt
   have P2t:=P2.tape
   rw[hpt]at P2t
   have ND:=N2.pt.data
   rw[hpt]at ND
   obtain⟨D,hD⟩:=Zx (ZgX n.data n.Y4)
   obtain⟨Z,hZ⟩:=Zx (ZnC n.data n.Y4)
   obtain⟨acp,ZBE⟩:=Zx (if YJ D Z then (U0 D).1 else XR)
   have es:started a.node (w.nodes a.node)=blank a.node true D Z acp:=by unfold started;rw[←hn0,if_neg (by rw[hu];simp),ZBE,hD,hZ]
   rw[es]
   have hDl:D.length≤1000000:=by
    rw[hD];unfold ZgX;split
    ·rw[List.length_take];omega
    ·simp
   simp -implicitDefEqProofs only[go_sem,↓reduceIte,f10,P2u,P2t]
   refine (Zqx T g2 _ n.Y4 n.data ND.bs hct (by omega) tb2.tk).use ?_
   rintro v3 g3 ⟨R3,b3⟩
   obtain⟨p3,c3,E3,rfl,o3⟩:∃p c E,v3=.tuple [.agg [.slice p D.length c,.int .i64 Z].toArray,.int .i64 E].toArray∧ZZ g2.size 5 g3 (.slice p D.length c) D:=by
    obtain⟨r,k,E,w',rfl,ob,hk,hr⟩:=R3
    have h1:(if E=0 then n.data.take k else [])=D:=by
     rw[hD];unfold ZgX
     split at hr
     ·rename_i q;rw[if_pos hr.1,if_pos q,Zct hr.2]
     ·rename_i q;rw[if_neg (show ¬E=0 by omega),if_neg q]
    have h2:(if E=0 then (if (k:Int)<n.Y4 then (k:Int) else n.Y4) else 0)=Z:=by
     rw[hZ];unfold ZnC
     split at hr
     ·rename_i q;rw[if_pos hr.1,if_pos q,Zct hr.2]
     ·rename_i q;rw[if_neg (show ¬E=0 by omega),if_neg q]
    rw[h1]at ob
    rw[h2]
    obtain⟨p,c,rfl,_⟩:=ob.open
    exact⟨p,c,E,rfl,ob⟩
   have kb3:=ZB K2.ZU b3
   obtain⟨g4,hg4⟩:=Zx (g3.push (.cells [.slice p3 D.length c3,.int .i64 Z].toArray 58):Hp)
   have k4:Kp J9 o g2 o g4:=by rw[hg4];exact kb3.push _
   have x11:ZM o g4 g3.size (.cells [.slice p3 D.length c3,.int .i64 Z].toArray 58):=⟨kb3.ZU _ (Nat.le_refl _),by rw[hg4];exact Zb⟩
   have e4:=hg4.symm
   have iD4:ImB o g4 (.slice p3 D.length c3) D:=by rw[hg4];exact ImB.Zc ⟨Im.QV o3.own (fun b hb=>K2.ZU b hb),o3.byte⟩ (ZV kb3.ZU _)
   have r11:rd g4 ⟨g3.size,0,none⟩ 2=some [.slice p3 D.length c3,.int .i64 Z]:=Zo x11.2 rfl
   have tb4:=tb2.Zc k4
   simp -implicitDefEqProofs only[go_sem,↓reduceIte,e4,r11]
   refine (ZgU T g4 _ Z D iD4.bs (by omega) tb4.tk).use ?_
   rintro v5 g5 ⟨R5,b5⟩
   obtain⟨p5,c5,E5,K5',rfl,o5⟩:∃p c E K,v5=.tuple [.agg [.int .i64 acp.p.r,.int .i64 acp.p.n,.slice p acp.l.length c].toArray,.int .i64 K,.int .i64 E].toArray∧ImV o g5 (.slice p acp.l.length c) acp.l:=by
    obtain⟨r,k,E,w',rfl,ob,hk,_,hr⟩:=R5
    have h1:r=acp:=by
     rw[ZBE]
     split at hr
     ·rw[if_pos (by assumption),Zct hr.2]
     ·rw[if_neg (by assumption)];exact hr.2.1
    rw[h1]at ob ⊢
    have im:ImV o g5 w' acp.l:=Im.QV ob.own (fun b hb=>k4.ZU b hb)
    obtain⟨p,c,rfl⟩:=im.isSlice
    exact⟨p,c,E,_,rfl,im⟩
   have kb5:=ZB k4.ZU b5
   obtain⟨g6,hg6⟩:=Zx (g5.push (.cells [.int .i64 acp.p.r,.int .i64 acp.p.n,.slice p5 acp.l.length c5].toArray 63):Hp)
   have k6:Kp J9 o g4 o g6:=by rw[hg6];exact kb5.push _
   have x13:ZM o g6 g5.size (.cells [.int .i64 acp.p.r,.int .i64 acp.p.n,.slice p5 acp.l.length c5].toArray 63):=⟨kb5.ZU _ (Nat.le_refl _),by rw[hg6];exact Zb⟩
   have e6:=hg6.symm
   have K6:Kp J9 o h o g6:=(K2.trans k4).trans k6
   have iD6:=iD4.Zc k6
   have iV6:ImV o g6 (.slice p5 acp.l.length c5) acp.l:=by rw[hg6];exact o5.Zc (ZV kb5.ZU _)
   have A6:=(A2.still k4).still k6
   have z3:=(y3.Zc k4).Zc k6
   have z11:=x11.Zc k6
   clear hn hc5 hb hrd Rn hwb q1 l3 ri
   obtain⟨b,off,c,hn,hc5,hb,hrd⟩:=U2 A6.wd
   have R6:=YY A6.wd.ZE.2
   have Rn:=R6.nodes
   rw[hn]at Rn
   have hwb:=Za A6.wd.ZE.2
   have q1:hc g6 ⟨h.size,1,none⟩=some (.int .i64 a.node):=Zg z3.2
   have l3:=Za z3.2
   have rt:rd g6 ⟨g3.size,0,none⟩ 2=some [.slice p3 D.length c3,.int .i64 Z]:=Zo z11.2 rfl
   have lt:=Za z11.2
   have ra:rd g6 ⟨g5.size,0,none⟩ 3=some [.int .i64 acp.p.r,.int .i64 acp.p.n,.slice p5 acp.l.length c5]:=Zo x13.2 rfl
   have la:=Za x13.2
   have cb:=Zg8 T g6 o wb a.node (.slice p3 D.length c3) D Z (.slice p5 acp.l.length c5) acp K6.ZU iD6 iV6
   simp -implicitDefEqProofs only[go_sem,↓reduceIte,e6]
   refine VS.z (g6.size) [12] (.p 0 (.p 1 (.p 2 (.q 3 (.p 4 (.q 5 (.p 6 (.q 7 (.q 8 (.q 9 (.s 10 (.p 11 (.w 12 .nil))))))))))))) mixed (by kernel_rfl) ?_
   simp -implicitDefEqProofs only[go_sem,↓reduceIte,f0,f3,Rn,q1,rt,ra,hwb,l3,lt,la,hb,hi5]
   refine cb.use ?_
   rintro _ g7 ⟨nb,o7,a7,rfl,b7,k7,N7⟩
   have W7:=A6.wd.Zc k7 (by rintro t (rfl|rfl)<;>simp[Tg.of])
   obtain⟨b',ZGZ,c',g8,hn',w8,k8,W8⟩:=ZiE k7.ZU W7 a.node nb hi
   rw[hn]at hn'
   simp only[Value.slice.injEq,Option.some.injEq,Addr.mk.injEq,true_and,and_true]at hn'
   obtain⟨⟨rfl,rfl⟩,rfl⟩:=hn'
   have hb7:b<g7.size:=Nat.lt_of_lt_of_le hb b7.size
   have N8:=N7.Zc k8 (by rintro t rfl e;cases e)
   have K8:Kp Zbd o h o7 g8:=((Yb K6).trans (Yb k7)).trans (Yb k8)
   unfold Zn at w8 ⊢
   simp -implicitDefEqProofs only[go_sem,↓reduceIte,b7,w8,hb7,hi5]
   have kk:Kp (fun t=>t=.nodes∨t.of=some a.node) o g6 o7 g8:=(k7.mono fun t q=>by rcases q with rfl|rfl<;>exact .inr rfl).trans (k8.mono fun t q=>.inl q)
   exact⟨o7,YE,_,K8,A6.fresh kk N8 W8⟩
def Zhd (Z6:Nat→Nat) (j:Nat):List Value:=(List.range j).map fun i=>Zn (Z6 i)
theorem ZnT (Z6:Nat→Nat) (j:Nat):Zhd Z6 (j+1)=Zhd Z6 j++[Zn (Z6 j)]:=by
 unfold Zhd;rw[List.range_succ,List.map_append];rfl
theorem ZnU (Z6:Nat→Nat) (j nb:Nat):Zhd (fun i=>if i=j then nb else Z6 i) j=Zhd Z6 j:=by
 unfold Zhd
 apply List.map_congr_left
 intro i hi
 rw[List.mem_range]at hi
 simp only
 rw[if_neg (by omega)]
set_option maxHeartbeats 4000000 in
theorem Zt7 (T:World) (h:Hp) (o:Ow) (d:Dom o h) :
  Zd Tryz.prog T 14 #[] h fun v' h'=>∃wb Z6 o' YE,v'=Zn wb∧Kp Zbd o h o' h'∧X8 o' h' wb Z6 YE ZaJ:=by
 refine Zd.Zi (args:=[]) Tryz.func14 rfl rfl rfl rfl ?_
 obtain⟨wb,ZyW⟩:=Zx (h.size)
 obtain⟨g1,hg1⟩:=Zx (h.push (.cells (Y9 (fun _=>0) ⟨.slice none 0 0,.slice none 0 0,.slice none 0 0⟩).toArray 55):Hp)
 have e1:=hg1.symm
 unfold Y9 at e1
 simp only at e1
 have k1:Kp Zbd o h (Jr o wb .world) g1:=by rw[hg1,ZyW];exact ((Kp.refl d Zbd).push _).ZbQ (Nat.le_refl _) (by simp) trivial
 have B1:QK (Jr o wb .world) .world g1 wb (.cells (Y9 (fun _=>0) ⟨.slice none 0 0,.slice none 0 0,.slice none 0 0⟩).toArray 55):=⟨YZ,by rw[hg1,ZyW];exact Zb⟩
 simp -implicitDefEqProofs only[go_sem,↓reduceIte,e1]
 rw[←ZyW]
 refine VS.ZW (fun F g=>F 1=.pointer (some ⟨wb,0,none⟩)∧∃(j:Nat) (o':Ow) (Z6:Nat→Nat) (v:Value),j≤5∧F 5=.int .i64 j∧Kp Zbd o h o' g∧QK o' .world g wb (.cells (Y9 (fun _=>0) ⟨v,.slice none 0 0,.slice none 0 0⟩).toArray 55)∧YA o' .nodes 56 1 g v j (Zhd Z6 j)∧∀i,i<j→∃a,ZJ o' g wb i (Z6 i) a (blank i true [] 0 XR))
  (fun F _=>5-(vi (F 5)).toNat) rfl ⟨rfl,0,_,fun _=>0,.slice none 0 0,by omega,rfl,k1,B1,YA.nil _ _ _ _ _,fun i hi=>by omega⟩ ?_
 clear B1 k1 e1 hg1
 rintro F2 g2 ⟨f1,j,o2,Z6,v,hj,f5,K2,B2,O2,N2⟩
 by_cases ZD:j<5
 ·have ZL:(j:Int)<5:=by omega
  obtain⟨pv,cv,rfl,_⟩:=O2.isSlice
  have R2:=YY B2.2
  have Rn:=R2.nodes
  simp only at Rn
  have hwb:=Za B2.2
  have cb:Zd Tryz.prog T 22 #[.int .i64 j,.agg #[.slice none 0 0,.int .i64 0],.agg #[.int .i64 0,.int .i64 0,.slice none 0 0]] g2 _:=Zg8 T g2 o2 wb j (.slice none 0 0) [] 0 (.slice none 0 0) XR K2.ZU ⟨Im.nil _ _ _ _,fun x hx=>by cases hx⟩ (Im.nil _ _ _ _)
  simp -implicitDefEqProofs only[go_sem,↓reduceIte,f1,f5,ZL]
  refine VS.z (g2.size) [10,13] (.p 0 (.p 1 (.p 2 (.p 3 (.q 4 (.p 5 (.p 6 (.p 7 (.s 8 (.s 9 (.w 10 (.p 11 (.p 12 (.w 13 .nil)))))))))))))) mixed (by kernel_rfl) ?_
  simp -implicitDefEqProofs only[go_sem,↓reduceIte,f1,f5,Rn,hwb]
  refine cb.use ?_
  rintro _ g3 ⟨nb,o3,a3,rfl,b3,k3,N3⟩
  unfold Zn
  simp -implicitDefEqProofs only[go_sem,↓reduceIte,b3]
  obtain⟨g4,hg4⟩:=Zx (g3.push (.cells [Zn nb].toArray 56):Hp)
  have e4:=hg4.symm
  unfold Zn at e4
  rw[e4]
  have k4:Kp J9 o3 g3 o3 g4:=by rw[hg4];exact ZV k3.ZU _
  have B4:=(B2.Zc k3 (by rintro (e|e)<;>cases e)).Zc k4 (fun q=>q)
  have O4:=(O2.Zc k3 (by rintro (e|e)<;>cases e)).Zc k4 (fun q=>q)
  have N4:=N3.still k4
  have M4:∀i,i<j→∃a,ZJ o3 g4 wb i (Z6 i) a (blank i true [] 0 XR):=fun i hi=>by
   obtain⟨a,N⟩:=N2 i hi
   refine⟨a,(N.Zc k3 ?_).still k4⟩
   rintro t (rfl|rfl) e
   ·have:=Option.some.inj e;omega
   ·have:=Option.some.inj e;omega
  have x4:g4[g3.size]? = some (.cells [Zn nb].toArray 56):=by rw[hg4];exact Zb
  have src:Sl 1 g4 (.slice (some ⟨g3.size,0,none⟩) 1 1) 1 [Zn nb]:=⟨_,1,rfl,rfl,fun _=>⟨g3.size,0,rfl,fun i hi=>by
   rw[Zg x4,Yl,Nat.zero_add];exact List.getElem?_eq_getElem hi⟩⟩
  refine Ju (E:=56) (n:=1) (bytes:=8) (k:=1) ZAp Tryz.underlying52 ZEm ZEo rfl ZEn O4 k4.ZU src rfl (by omega) (by omega) ?_
  intro v' o5 g5 O5 k5 _
  have k5:Kp (fun u=>u=.nodes) o3 g4 o5 g5:=k5
  obtain⟨p5,c5,rfl,_⟩:=O5.isSlice
  have B5:=B4.Zc k5 (by intro e;cases e)
  have w5:=(YY B5.2).Zyz (.slice p5 (j+1) c5) rfl
  have ZnN:=Za B5.2
  obtain⟨g6,hg6⟩:=Zx (g5.setIfInBounds wb (.cells (Y9 (fun _=>0) ⟨.slice p5 (j+1) c5,.slice none 0 0,.slice none 0 0⟩).toArray 55))
  simp only at w5
  rw[←hg6]at w5
  have k6:Kp (fun t=>t=.world) o5 g5 o5 g6:=by rw[hg6];exact (Kp.refl k5.ZU (fun t=>t=.world)).set B5.1 rfl _
  have B6:QK o5 .world g6 wb (.cells (Y9 (fun _=>0) ⟨.slice p5 (j+1) c5,.slice none 0 0,.slice none 0 0⟩).toArray 55):=⟨B5.1,by rw[hg6];exact Zu B5.2⟩
  have K6:Kp Zbd o h o5 g6:=(((K2.trans (Yb k3)).trans (Yb k4)).trans (Yb k5)).trans (Yb k6)
  simp -implicitDefEqProofs only[go_sem,↓reduceIte,w5,ZnN,f5]
  unfold Xo
  refine⟨⟨f1,j+1,o5,(fun i=>if i=j then nb else Z6 i),.slice p5 (j+1) c5,ZD,rfl,K6,B6,?_,fun i hi=>?_⟩,?_⟩
  ·rw[ZnT,ZnU]
   simp only[↓reduceIte]
   exact O5.Zc k6 (by intro e;cases e)
  ·by_cases e:i=j
   ·subst e
    refine⟨a3,?_⟩
    simp only[↓reduceIte]
    exact (N4.Zc k5 (by rintro t rfl e;cases e)).Zc k6 (by rintro t rfl e;cases e)
   ·obtain⟨a,N⟩:=M4 i (by omega)
    refine⟨a,?_⟩
    simp only[if_neg e]
    exact (N.Zc k5 (by rintro t rfl e;cases e)).Zc k6 (by rintro t rfl e;cases e)
  ·simp only[vi,Zk,↓reduceIte,f5];omega
 ·have YK:¬(j:Int)<5:=by omega
  obtain rfl:j=5:=by omega
  simp -implicitDefEqProofs only[go_sem,↓reduceIte,f1,f5,YK]
  exact⟨wb,Z6,o2,_,rfl,K2,⟨B2,O2,⟨[],rfl,YA.nil _ _ _ _ _,fun x hx=>by cases hx⟩,YA.nil _ _ _ _ _⟩,fun i hi=>N2 i hi⟩
theorem ZnV (T:World) (h:Hp) (u:Value) (l:List Cm) (s:Ts J7.C 5 h u l) (hl:l.length≤2199023255552) :
  Zd Tryz.prog T 16 #[u] h fun v' h'=>Jc h.size 77 J7.C 5 h' v' l∧Zf h.size h h':=by
 obtain⟨p,c,rfl,hc1⟩:=X7 s
 refine Zd.Zi (args:=[_]) Tryz.func16 rfl rfl rfl rfl ?_
 cases p with
 | none=>
  have:l=[]:=by
   cases l with
   | nil=>rfl
   | cons x l=>obtain⟨b,o,hp,_⟩:=hc1 (by simp);cases hp
  subst this
  simp -implicitDefEqProofs only[go_sem,↓reduceIte]
  exact Jc.nil _ _ _ _ _
 | some a=>
  simp -implicitDefEqProofs only[go_sem,↓reduceIte]
  refine Zci (E:=77) (B:=h.size) (n:=5) (bytes:=40) Zkn Tryz.underlying41 ZxW Zsu rfl ZAq (fun _=>rfl) (Jc.Zhw _ _ J7.C 5 _ _) (by simp) (s.Z9 (Zf.push (Nat.le_refl _) _)) (by simp;omega) (by omega) ?_
  intro v' h' ho hb _
  simp -implicitDefEqProofs only[go_sem,↓reduceIte]
  exact⟨by simpa using ho,(Zf.push (Nat.le_refl _) _).trans hb⟩
structure Raw where
 k:Int
 n:Int
 a:Int
 b:Int
 data:List Nat
def Raw.ac (x:Raw):Ac:=⟨x.k,x.n.toNat,x.a.toNat,x.b,x.data⟩
def Raw.err (x:Raw):Int:=Qy x.k x.n x.a x.b x.data.length
def Zac (x:Raw × Value):List Value:=acC x.1.k x.1.n x.1.a x.1.b x.2
def JK:List Raw→Int
 | []=>0
 | x :: l=>if x.err≠0 then x.err else JK l
def U6 (l:List Raw):Int:=if 100000<l.length then 1 else JK l
theorem ZlL (x:Raw × Value):(Zac x).length=5:=rfl
theorem Zhe {l:List Raw} {j:Nat} (hj:j<l.length) (h0:∀x∈l.take j,x.err=0) (h1:l[j].err≠0):JK l=l[j].err:=by
 induction l generalizing j with
 | nil=>simp at hj
 | cons y l ih=>
  cases j with
  | zero=>unfold JK;rw[if_pos (by simpa using h1)];rfl
  | succ j=>
   unfold JK
   rw[if_neg (by simpa using h0 y (by simp))]
   exact ih (by simpa using hj) (fun x hx=>h0 x (by simp[hx])) (by simpa using h1)
theorem Zca {l:List Raw} (h0:∀x∈l,x.err=0):JK l=0:=by
 induction l with
 | nil=>rfl
 | cons y l ih=>unfold JK;rw[if_neg (by simpa using h0 y (by simp))];exact ih fun x hx=>h0 x (by simp[hx])
theorem ZjK {x:Raw} (h:x.err=0):(1≤x.k∧x.k≤9)∧(0≤x.n∧x.n≤4)∧(0≤x.a∧x.a≤1048576)∧(0≤x.b∧x.b≤100000)∧x.data.length≤2000:=by
 unfold Raw.err Qy at h
 by_cases c1:1≤x.k∧x.k≤9
 case neg=>rw[if_pos c1]at h;cases h
 rw[if_neg (by simpa using c1)]at h
 by_cases c2:(YO x.k∧¬(0≤x.n∧x.n≤4))∨(Jl x.k∧¬(0≤x.a∧x.a≤1048576))∨(x.k=8∧¬(0≤x.b∧x.b≤100000))
 ·rw[if_pos c2]at h;cases h
 rw[if_neg c2]at h
 by_cases c3:2000<x.data.length
 ·rw[if_pos c3]at h;cases h
 rw[if_neg c3]at h
 by_cases c4:(¬YO x.k∧x.n≠0)∨(¬Jl x.k∧x.a≠0)∨(x.k≠8∧x.b≠0)∨(x.k≠1∧0<x.data.length)
 ·rw[if_pos c4]at h;cases h
 refine⟨c1,?_,?_,?_,by omega⟩
 ·by_cases q:YO x.k
  ·exact Classical.byContradiction fun e=>c2 (.inl ⟨q,e⟩)
  ·have:x.n=0:=Classical.byContradiction fun e=>c4 (.inl ⟨q,e⟩)
   omega
 ·by_cases q:Jl x.k
  ·exact Classical.byContradiction fun e=>c2 (.inr (.inl ⟨q,e⟩))
  ·have:x.a=0:=Classical.byContradiction fun e=>c4 (.inr (.inl ⟨q,e⟩))
   omega
 ·by_cases q:x.k=8
  ·exact Classical.byContradiction fun e=>c2 (.inr (.inr ⟨q,e⟩))
  ·have:x.b=0:=Classical.byContradiction fun e=>c4 (.inr (.inr (.inl ⟨q,e⟩)))
   omega
def Xw (xs:List (Raw × Value)):List Raw:=xs.map (·.1)
def noO:Ow:=fun _=>none
theorem Zdg (h:Hp):Dom noO h:=fun _ _=>rfl
theorem Zdh {S:Tg→Prop} {h h':Hp} {o':Ow} (k:Kp S noO h o' h'):Zf h.size h h':=
 ⟨k.size,fun b hb=>(k.Zc b hb fun t ht=>by cases ht).1⟩
def rsZ:List Value:=[.int .i64 0,.bool false,.bool false,.bool false,.bool false,.bool false,.slice none 0 0,.int .i64 0,.int .i64 0,.int .i64 0,.int .i64 0,.int .i64 0,.slice none 0 0]
def rsC (w:Wd) (lv tv:Value):List Value:=[.int .i64 w.Zl.length,.bool (w.nodes 0).up,.bool (w.nodes 1).up,.bool (w.nodes 2).up,.bool (w.nodes 3).up,.bool (w.nodes 4).up,lv,.int .i64 (w.bad 0),.int .i64 (w.bad 1),.int .i64 (w.bad 2),.int .i64 (w.bad 3),.int .i64 (w.bad 4),tv]
structure ZnW (h:Hp) (R:List Value) (w:Wd) (lv tv:Value) (vs:List Value):Prop where
 cells:R=rsC w lv tv
 Zt8:Ts (fun v=>[v]) 1 h lv vs
 each:Al2 (fun v l=>Ts J7.C 5 h v l) vs [(w.nodes 0).log,(w.nodes 1).log,(w.nodes 2).log,(w.nodes 3).log,(w.nodes 4).log]
 told:Ts ZgZ 5 h tv w.told
def QD (B:Nat) (h:Hp) (R:List Value) (w:Wd) (lv tv:Value) (vs:List Value):Prop:=∀G:Hp,(∀b,B≤b→b<h.size→G[b]? = h[b]?)→ZnW G R w lv tv vs
theorem QD.at {B:Nat} {h:Hp} {R:List Value} {w:Wd} {lv tv:Value} {vs:List Value} (s:QD B h R w lv tv vs):ZnW h R w lv tv vs:=s h fun _ _ _=>rfl
theorem QD.Z9 {B:Nat} {h h':Hp} {R:List Value} {w:Wd} {lv tv:Value} {vs:List Value} (s:QD B h R w lv tv vs) (b:Zf h.size h h'):QD B h' R w lv tv vs:=
 fun G hG=>s G fun k h1 h2=>by rw[hG k h1 (Nat.lt_of_lt_of_le h2 b.size)];exact b.block k h2
theorem QD.set {B:Nat} {h:Hp} {R:List Value} {w:Wd} {lv tv:Value} {vs:List Value} (s:QD B h R w lv tv vs) {k:Nat} (hk:k<B) (x:Obj):QD B (h.setIfInBounds k x) R w lv tv vs:=
 fun G hG=>s G fun b h1 h2=>by rw[hG b h1 (by simpa using h2),Array.getElem?_setIfInBounds,if_neg (by omega)]
def ZiG (B:Nat) (h':Hp) (v':Value) (l:List Raw):Prop:=
 if U6 l=0 then ∃R lv tv vs,v'=.tuple #[.agg R.toArray,.int .i64 0]∧QD B h' R (Za7 (l.map Raw.ac)) lv tv vs
 else v'=.tuple #[.agg rsZ.toArray,.int .i64 (U6 l)]
theorem ZiH {h:Hp} {v:Value} {l:List (Raw × Value)} (s:Ts Zac 5 h v l):∃p c,v=.slice p l.length c∧(l≠[]→∃b o,p=some ⟨b,o,none⟩∧b<h.size∧∀i (hi:i<l.length),rd h ⟨b,o+i*5,none⟩ 5=some (Zac l[i])):=by
 obtain⟨p,c,hv,hh⟩:=s.open ZlL (by decide)
 refine⟨p,c,hv,fun Ys=>?_⟩
 obtain⟨b,o,h1,h2,h3⟩:=hh Ys
 exact⟨b,o,h1,h2,fun i hi=>(h3 i hi).rd (by simp[Zac,acC]) rfl⟩
def rsM (w:Wd) (j:Nat) (lv tv:Value):List Value:=[.int .i64 w.Zl.length,.bool (if 0<j then (w.nodes 0).up else false),.bool (if 1<j then (w.nodes 1).up else false),.bool (if 2<j then (w.nodes 2).up else false),.bool (if 3<j then (w.nodes 3).up else false),.bool (if 4<j then (w.nodes 4).up else false),lv,.int .i64 (w.bad 0),.int .i64 (w.bad 1),.int .i64 (w.bad 2),.int .i64 (w.bad 3),.int .i64 (w.bad 4),tv]
theorem ZoW (w:Wd) (j:Nat) (lv tv:Value):(rsM w j lv tv).length=13:=rfl
theorem ZyX (w:Wd) (j:Nat) (lv tv:Value) (hj:j<5):(rsM w j lv tv).set (1+j) (.bool (w.nodes j).up)=rsM w (j+1) lv tv:=by
 match j,hj with
 | 0,_=>rfl
 | 1,_=>rfl
 | 2,_=>rfl
 | 3,_=>rfl
 | 4,_=>rfl
theorem Zwx (w:Wd) (j:Nat) (lv lv' tv:Value):(rsM w j lv tv).set 6 lv'=rsM w j lv' tv:=rfl
def Zhf (w:Wd) (j:Nat):List (List Cm):=(List.range j).map fun i=>(w.nodes i).log
theorem ZlM (w:Wd) (j:Nat):Zhf w (j+1)=Zhf w j++[(w.nodes j).log]:=by
 unfold Zhf;rw[List.range_succ,List.map_append];rfl
def ZnX (t:Tg):Prop:=t=.log 100∨t=.log 101
theorem Zhg {α β:Type} {R R':α→β→Prop} {l:List α} {k:List β} (s:Al2 R l k) (h:∀x y,R x y→R' x y):Al2 R' l k:=by
 induction s with
 | nil=>exact .nil
 | cons a _ ih=>exact .cons (h _ _ a) ih
theorem Zq2 (l:List Value):Zz (fun v=>[v]) l=l:=by
 induction l with
 | nil=>rfl
 | cons x l ih=>
  have:Zz (fun v=>[v]) (x :: l)=[x]++Zz (fun v=>[v]) l:=by simp[Zz]
  rw[this,ih];rfl
theorem ZoX {o:Ow} {t:Tg} {E:TypeId} {n m:Nat} {h G:Hp} {v:Value} {cs:List Value} (s:YA o t E n h v m cs) (hG:∀b,o b=some t→b<h.size→G[b]? = h[b]?):YA o t E n G v m cs:=by
 rcases s with s|⟨b',j,cap,pre,spare,h1,rfl,h3,h4,h5,h6,h7⟩
 ·exact .inl s
 ·exact .inr ⟨b',j,cap,pre,spare,h1,rfl,by rw[hG b' h1 (Za h3)];exact h3,h4,h5,h6,h7⟩
theorem ZBF {o:Ow} {n m:Nat} {h G:Hp} {v:Value} {cs:List Value} (s:Im o n h v m cs) (hG:∀b,ZT v=some b→b<h.size→G[b]? = h[b]?):Sl n G v m cs:=by
 obtain⟨⟨p,c,rfl,hl,hcc⟩,⟨p',c',he,hm⟩,hf⟩:=s
 simp only[Value.slice.injEq,true_and]at he
 obtain⟨rfl,rfl⟩:=he
 refine⟨p,c,rfl,hl,fun Ys=>?_⟩
 obtain⟨b,off,rfl,YR⟩:=hcc Ys
 have hc0:c≠0:=by
  intro e
  have:m=0:=by omega
  rw[this,Nat.zero_mul]at hl
  exact Ys (List.eq_nil_of_length_eq_zero hl)
 have hb:ZT (.slice (some ⟨b,off,none⟩) m c)=some b:=by unfold ZT;simp only;rw[if_neg hc0]
 refine⟨b,off,rfl,fun i hi=>?_⟩
 have h1:=YR i hi
 have h2:=hG b hb (hf b hb).1
 unfold V.hc at h1 ⊢
 rw[h2];exact h1
theorem Zt9 {S:Tg→Prop} {h h':Hp} {o':Ow} {t:Tg} {b:Nat} (k:Kp S noO h o' h') (hb:o' b=some t):h.size≤b:=by
 refine Classical.byContradiction fun q=>?_
 obtain⟨_,h2⟩:=k.Zc b (by omega) (fun t ht=>by cases ht)
 rw[hb]at h2;cases h2
set_option maxHeartbeats 8000000 in
theorem Zwy (T:World) (h:Hp) (v:Value) (xs:List (Raw × Value)) (hv:Ts Zac 5 h v xs) (hx:∀x∈xs,ImB noO h x.2 x.1.data) (tb:Tbs noO h) (hxl:xs.length≤4611686018427387904)
  (inv:(∀x∈Xw xs,x.err=0)→xs.length≤100000→∀j,j≤xs.length→WOk (Za7 (((Xw xs).take j).map Raw.ac))) :
  Zd Tryz.prog T 6 #[v] h fun v' h'=>Zf h.size h h'∧ZiG h.size h' v' (Xw xs):=by
 obtain⟨p,c,rfl,YR⟩:=ZiH hv
 refine Zd.XM (args:=[_]) Tryz.func6 rfl rfl rfl rfl ?_
 obtain⟨h1,YF⟩:=Zx (h.push (.cells rsZ.toArray 29):Hp)
 have e1:=YF.symm
 unfold rsZ at e1
 have b1:Zf h.size h h1:=by rw[YF];exact Zf.push (Nat.le_refl _) _
 have s1:h1.size=h.size+1:=by rw[YF];simp
 have x2:h1[h.size]? = some (.cells rsZ.toArray 29):=by rw[YF];exact Zb
 have rl:(Xw xs).length=xs.length:=by unfold Xw;simp
 have rz:∀G:Hp,Zf h1.size h1 G→G[h.size]? = some (.cells rsZ.toArray 29):=fun G hG=>hG.get (by omega) x2
 have wz:∀G:Hp,Zf h1.size h1 G→wr G ⟨h.size,0,none⟩ [.int .i64 0,.bool false,.bool false,.bool false,.bool false,.bool false,.slice none 0 0,.int .i64 0,.int .i64 0,.int .i64 0,.int .i64 0,.int .i64 0,.slice none 0 0]=some G:=fun G hG=>by
  rw[ZQ (rz G hG) 0 _]
  have:(G.setIfInBounds h.size (.cells (Yq rsZ 0 [.int .i64 0,.bool false,.bool false,.bool false,.bool false,.bool false,.slice none 0 0,.int .i64 0,.int .i64 0,.int .i64 0,.int .i64 0,.int .i64 0,.slice none 0 0]).toArray 29))=G:=ZdS (rz G hG)
  rw[if_pos ⟨by simp[rsZ],rfl⟩]
  exact congrArg some this
 have rr:∀G:Hp,Zf h1.size h1 G→rd G ⟨h.size,0,none⟩ 13=some [.int .i64 0,.bool false,.bool false,.bool false,.bool false,.bool false,.slice none 0 0,.int .i64 0,.int .i64 0,.int .i64 0,.int .i64 0,.int .i64 0,.slice none 0 0]:=fun G hG=>Zo (rz G hG) rfl
 have w0:=wz h1 (Zf.refl _ _)
 have r0:=rr h1 (Zf.refl _ _)
 have l0:=Za x2
 by_cases Zxt:100000<xs.length
 ·have Zua:(xs.length:Int)>100000:=by omega
  have e2:U6 (Xw xs)=1:=by unfold U6;rw[rl,if_pos Zxt]
  simp -implicitDefEqProofs only[go_sem,↓reduceIte,e1,Zua,w0,r0]
  refine⟨b1,?_⟩
  unfold ZiG
  rw[e2,if_neg (by decide)]
  rfl
 have Zua:¬(xs.length:Int)>100000:=by omega
 have ZyY:xs.length≤100000:=by omega
 have e2:U6 (Xw xs)=JK (Xw xs):=by unfold U6;rw[rl,if_neg Zxt]
 have ZjL:∀i (hi:i<xs.length),(Xw xs)[i]'(by rw[rl];exact hi)=xs[i].1:=fun i hi=>by unfold Xw;simp
 simp -implicitDefEqProofs only[go_sem,↓reduceIte,e1,Zua]
 refine VS.ZW (fun F g=>F 0=.slice p xs.length c∧F 2=.pointer (some ⟨h.size,0,none⟩)∧F 17=.slice p xs.length c∧F 18=.int .i64 xs.length∧Zf h1.size h1 g∧∃j:Nat,j≤xs.length∧F 19=.int .i64 j∧∀x∈(Xw xs).take j,x.err=0)
  (fun F _=>xs.length-(vi (F 19)).toNat) rfl ⟨rfl,rfl,rfl,rfl,Zf.refl _ _,0,Nat.zero_le _,rfl,fun x hx=>by simp at hx⟩ ?_
 rintro F2 g2 ⟨f0,f2,f17,f18,b2,j,hj,f19,hz⟩
 by_cases ZD:j<xs.length
 ·have ZL:(j:Int)<xs.length:=by omega
  obtain⟨bb,oo,rfl,hbb,hrd⟩:=YR (by intro e;rw[e]at ZD;simp at ZD)
  obtain⟨x,hx0⟩:=Zx (xs[j])
  have hxm:x∈xs:=by rw[hx0];exact List.getElem_mem ZD
  have iv:=hx x hxm
  obtain⟨pd,cd,hpd⟩:=iv.1.isSlice
  have r1:rd g2 ⟨bb,oo+j*5,none⟩ 5=some (Zac x):=by rw[JP (b1.trans (b2.mono (by omega))) hbb,hx0];exact hrd j ZD
  unfold Zac acC at r1
  rw[hpd]at r1
  obtain⟨g3,hg3⟩:=Zx (g2.push (.cells (acC x.1.k x.1.n x.1.a x.1.b (.slice pd x.1.data.length cd)).toArray 46):Hp)
  have e3:=hg3.symm
  have y3:g3[g2.size]? = some (.cells (acC x.1.k x.1.n x.1.a x.1.b (.slice pd x.1.data.length cd)).toArray 46):=by rw[hg3];exact Zb
  have r3:rd g3 ⟨g2.size,0,none⟩ 5=some (acC x.1.k x.1.n x.1.a x.1.b (.slice pd x.1.data.length cd)):=Zo y3 rfl
  unfold acC at e3 r3
  have b3:Zf h1.size h1 g3:=by rw[hg3];exact b2.Ye b2.size _
  have ck:=ZhH T g3 x.1.k x.1.n x.1.a x.1.b pd x.1.data.length cd
  unfold ZgB at ck
  simp -implicitDefEqProofs only[go_sem,↓reduceIte,f0,f2,f17,f18,f19,ZL,r1,e3,r3]
  refine ck.use ?_
  rintro _ g4 ⟨rfl,b4⟩
  have B4:Zf h1.size h1 g4:=b3.trans (b4.mono b3.size)
  have exr:x.1.err=Qy x.1.k x.1.n x.1.a x.1.b x.1.data.length:=rfl
  rw[←exr]
  by_cases hex:x.1.err=0
  ·simp -implicitDefEqProofs only[go_sem,↓reduceIte,hex,f19]
   unfold Xo
   refine⟨⟨f0,f2,f17,f18,B4,j+1,ZD,rfl,fun y hy=>?_⟩,?_⟩
   ·rw[Yi _ j (by rw[rl];exact ZD),List.mem_append]at hy
    rcases hy with hy|hy
    ·exact hz y hy
    ·rw[ZjL j ZD,←hx0]at hy
     have:y=x.1:=by simpa using hy
     rw[this];exact hex
   ·simp only[vi,Zk,↓reduceIte,f19];omega
  ·have w4:=wz g4 B4
   have r4:=rr g4 B4
   have l4:=Za (rz g4 B4)
   simp -implicitDefEqProofs only[go_sem,↓reduceIte,hex,w4,r4,f2,l4]
   refine⟨b1.trans (B4.mono (by omega)),?_⟩
   unfold ZiG
   have:JK (Xw xs)=x.1.err:=by
    have:=Zhe (l:=Xw xs) (j:=j) (by rw[rl];exact ZD) hz (by rw[ZjL j ZD,←hx0];exact hex)
    rw[this,ZjL j ZD,←hx0]
   rw[e2,this,if_neg hex]
   rfl
 have YK:¬(j:Int)<xs.length:=by omega
 obtain rfl:j=xs.length:=by omega
 have YU:∀x∈Xw xs,x.err=0:=fun x hx=>hz x (by rw[List.take_of_length_le (by omega)];exact hx)
 have hzero:U6 (Xw xs)=0:=by rw[e2];exact Zca YU
 have inv:=inv YU ZyY
 simp -implicitDefEqProofs only[go_sem,↓reduceIte,f18,f19,YK]
 refine (Zt7 T g2 noO (Zdg g2)).use ?_
 rintro _ g3 ⟨wb,ZG1,o3,WA3,rfl,K3,A3⟩
 unfold Zn
 have bh2:Zf h.size h g2:=b1.trans (b2.mono (by omega))
 have kh2:Kp Zbd noO h noO g2:=Kp.Zgl (Zdg h) bh2 _
 obtain⟨acs,ZnY⟩:=Zx ((Xw xs).map Raw.ac)
 have ZBG:acs.length=xs.length:=by rw[ZnY,List.length_map,rl]
 have inv:∀j,j≤xs.length→WOk (Za7 (acs.take j)):=fun j hj=>by
  have:=inv j hj
  rw[ZnY,←List.map_take];exact this
 simp -implicitDefEqProofs only[go_sem,↓reduceIte,f0,f2]
 refine VS.ZW (fun F g=>F 2=.pointer (some ⟨h.size,0,none⟩)∧F 7=.pointer (some ⟨wb,0,none⟩)∧F 31=.slice p xs.length c∧F 32=.int .i64 xs.length∧∃(j:Nat) (o':Ow) (Z6:Nat→Nat) (Xq:WA),j≤xs.length∧F 33=.int .i64 j∧Kp Zbd noO g2 o' g∧X8 o' g wb Z6 Xq (Za7 (acs.take j)))
  (fun F _=>xs.length-(vi (F 33)).toNat) rfl ⟨f2,rfl,rfl,rfl,0,o3,ZG1,WA3,Nat.zero_le _,rfl,K3,A3⟩ ?_
 clear f0 f2 f17 f18 f19 K3 A3
 rintro F4 g4 ⟨f2,f7,f31,f32,j,o4,ZG2,WA4,hj,f33,K4,A4⟩
 by_cases ZD:j<xs.length
 ·have ZL:(j:Int)<xs.length:=by omega
  obtain⟨bb,oo,rfl,hbb,hrd⟩:=YR (by intro e;rw[e]at ZD;simp at ZD)
  obtain⟨x,hx0⟩:=Zx (xs[j])
  have hxm:x∈xs:=by rw[hx0];exact List.getElem_mem ZD
  have hxe:x.1.err=0:=YU x.1 (by unfold Xw;exact List.mem_map_of_mem hxm)
  obtain⟨q1,q2,q3,q4,q5⟩:=ZjK hxe
  have Kh4:Kp Zbd noO h o4 g4:=kh2.trans K4
  have iv:=(hx x hxm).Zc Kh4
  obtain⟨pd,cd,hpd⟩:=iv.1.isSlice
  have r1:rd g4 ⟨bb,oo+j*5,none⟩ 5=some (Zac x):=by rw[JP (Zdh Kh4) hbb,hx0];exact hrd j ZD
  unfold Zac acC at r1
  rw[hpd]at r1 iv
  obtain⟨g5,hg5⟩:=Zx (g4.push (.cells (acC x.1.k x.1.n x.1.a x.1.b (.slice pd x.1.data.length cd)).toArray 46):Hp)
  have e5:=hg5.symm
  have k5:Kp J9 o4 g4 o4 g5:=by rw[hg5];exact ZV K4.ZU _
  have y5:g5[g4.size]? = some (.cells (acC x.1.k x.1.n x.1.a x.1.b (.slice pd x.1.data.length cd)).toArray 46):=by rw[hg5];exact Zb
  have r5:rd g5 ⟨g4.size,0,none⟩ 5=some (acC x.1.k x.1.n x.1.a x.1.b (.slice pd x.1.data.length cd)):=Zo y5 rfl
  unfold acC at e5 r5
  have en:((x.1.n.toNat:Nat):Int)=x.1.n:=by omega
  have ea:((x.1.a.toNat:Nat):Int)=x.1.a:=by omega
  have cd2:=ZyS T g5 o4 wb ZG2 WA4 (Za7 (acs.take j)) x.1.ac (.slice pd x.1.data.length cd) k5.ZU (A4.still k5) (inv j hj) q1 (by unfold Raw.ac;simp only;omega) (iv.Zc k5) (by unfold Raw.ac;simp only;omega) ((tb.Zc Kh4).Zc k5)
  unfold Zn acC Raw.ac at cd2
  simp only at cd2
  rw[en,ea]at cd2
  have YN:Za7 (acs.take (j+1))=act (Za7 (acs.take j)) ⟨x.1.k,x.1.n.toNat,x.1.a.toNat,x.1.b,x.1.data⟩:=by
   rw[Yi _ j (by rw[ZBG];exact ZD)]
   unfold Za7
   rw[List.foldl_append]
   have:acs[j]'(by rw[ZBG];exact ZD)=⟨x.1.k,x.1.n.toNat,x.1.a.toNat,x.1.b,x.1.data⟩:=by
    simp only[ZnY,List.getElem_map,ZjL j ZD,←hx0];rfl
   rw[this];rfl
  simp -implicitDefEqProofs only[go_sem,↓reduceIte,f2,f7,f31,f32,f33,ZL,r1,e5,r5]
  refine cd2.use ?_
  rintro v' g6 ⟨o6,WA6,ZG3,k6,A6⟩
  simp -implicitDefEqProofs only[go_sem,↓reduceIte,f33]
  unfold Xo
  refine⟨⟨f2,f7,f31,f32,j+1,o6,ZG3,WA6,ZD,rfl,(K4.trans (Yb k5)).trans k6,by rw[YN];exact A6⟩,?_⟩
  simp only[vi,Zk,↓reduceIte,f33];omega
 have YK:¬(j:Int)<xs.length:=by omega
 obtain rfl:j=xs.length:=by omega
 rw[List.take_of_length_le (by omega)]at A4
 have okW:=inv xs.length (Nat.le_refl _)
 rw[List.take_of_length_le (by omega)]at okW
 obtain⟨w,hw⟩:=Zx (Za7 acs)
 rw[←hw]at A4 okW
 have U4:=YY A4.wd.ZE.2
 have U4o:=U4.out
 have ZG4:=Za A4.wd.ZE.2
 obtain⟨pf,cf,hpf,_⟩:=Zbe A4.wd.Zl
 obtain⟨pt,ct,hpt,_⟩:=A4.wd.told.isSlice
 obtain⟨tv,htv⟩:=Zx (WA4.told)
 rw[hpt]at U4o htv
 obtain⟨kb,hkb⟩:=Zx (g4.size)
 obtain⟨g5,hg5⟩:=Zx (g4.push (.cells [.int .i64 0,.bool false,.bool false,.bool false,.bool false,.bool false,.slice none 0 0,.int .i64 (w.bad 0),.int .i64 (w.bad 1),.int .i64 (w.bad 2),.int .i64 (w.bad 3),.int .i64 (w.bad 4),.slice pt w.told.length ct].toArray 29):Hp)
 have e5:=hg5.symm
 have y5:g5[kb]? = some (.cells [.int .i64 0,.bool false,.bool false,.bool false,.bool false,.bool false,.slice none 0 0,.int .i64 (w.bad 0),.int .i64 (w.bad 1),.int .i64 (w.bad 2),.int .i64 (w.bad 3),.int .i64 (w.bad 4),.slice pt w.told.length ct].toArray 29):=by rw[hg5,hkb];exact Zb
 have k5:Kp J9 o4 g4 o4 g5:=by rw[hg5];exact ZV K4.ZU _
 obtain⟨g6,hg6⟩:=Zx (g5.setIfInBounds kb (.cells (rsM w 0 (.slice none 0 0) (.slice pt w.told.length ct)).toArray 29):Hp)
 have w6:Jp g5 ⟨kb,0,none⟩ (.int .i64 w.Zl.length)=some g6:=by rw[Yu y5 0 _,hg6];rfl
 have l5:=Za y5
 obtain⟨o6,ho6⟩:=Zx (Jr o4 kb (.log 101))
 have k6:Kp ZnX o4 g4 o6 g6:=by rw[ho6,hg6];exact ((ZC k5).ZbQ (by omega) l5 (.inr rfl)).ZmN (by omega) _
 have B6:QK o6 (.log 101) g6 kb (.cells (rsM w 0 (.slice none 0 0) (.slice pt w.told.length ct)).toArray 29):=⟨by rw[ho6];exact YZ,by rw[hg6];exact Zu y5⟩
 have A5:=A4.still k5
 have U5:=YY A5.wd.ZE.2
 have U5f:=U5.Zl
 rw[hpf]at U5f
 have ZnN:=Za A5.wd.ZE.2
 have nof:∀t,ZnX t→t.of≠none:=by rintro t (rfl|rfl) e<;>cases e
 have non:∀t (i:Nat),i<5→ZnX t→t.of≠some i:=by
  rintro t i hi (rfl|rfl) e
  ·have:=Option.some.inj e;omega
  ·have:=Option.some.inj e;omega
 have W6:=A4.wd.Zc k6 nof
 obtain⟨bn,ZG5,cn,hn,hcn,hbn,ZyZ⟩:=U2 W6
 have U6n:=(YY W6.ZE.2).nodes
 rw[hn]at U6n
 have ZBH:=Za W6.ZE.2
 simp -implicitDefEqProofs only[go_sem,↓reduceIte,f32,f33,YK,f2,f7,U4o,ZG4,e5]
 rw[←hkb]
 simp -implicitDefEqProofs only[go_sem,↓reduceIte,f7,U5f,ZnN,w6,l5,U6n,ZBH]
 refine VS.ZW (fun F g=>F 2=.pointer (some ⟨h.size,0,none⟩)∧F 10=.pointer (some ⟨kb,0,none⟩)∧F 54=.slice (some ⟨bn,ZG5,none⟩) 5 cn∧F 55=.int .i64 5∧∃(j:Nat) (o':Ow) (lv:Value) (vs:List Value),j≤5∧F 56=.int .i64 j∧Kp ZnX o4 g4 o' g∧QK o' (.log 101) g kb (.cells (rsM w j lv (.slice pt w.told.length ct)).toArray 29) ∧
   YA o' (.log 100) 41 1 g lv j vs∧Al2 (fun v l=>Im o' 5 g v l.length (Zz J7.C l)∧∀b,ZT v=some b→g4.size≤b) vs (Zhf w j))
  (fun F _=>5-(vi (F 56)).toNat) rfl ⟨f2,rfl,rfl,rfl,0,o6,.slice none 0 0,[],by omega,rfl,k6,B6,YA.nil _ _ _ _ _,.nil⟩ ?_
 clear f2 f7 f31 f32 f33 B6 k6 w6 l5 U6n ZBH W6 ZyZ hbn ho6 hg6 y5 e5
 rintro F7 g7 ⟨f2,f10,f54,f55,j,o7,lv,vs,hj,f56,K7,B7,O7,L7⟩
 have W7:=A4.wd.Zc K7 nof
 by_cases ZD:j<5
 ·have ZL:(j:Int)<5:=by omega
  obtain⟨na,N4j⟩:=A4.nd j ZD
  have N7:=N4j.Zc K7 (fun t q=>non t j ZD q)
  obtain⟨bn',ZJm,cn',hn',ZL2,hbn,ZyZ⟩:=U2 W7
  rw[hn]at hn'
  simp only[Value.slice.injEq,Option.some.injEq,Addr.mk.injEq,true_and,and_true]at hn'
  obtain⟨⟨rfl,rfl⟩,rfl⟩:=hn'
  have ri:=ZyZ j ZD
  unfold Zn at ri
  have P7:=Zw N7.ZE.2 N7.pt.store.len
  have P7u:=P7.up
  have ZyI:=Za N7.ZE.2
  have l7:=Za B7.2
  obtain⟨g8,hg8⟩:=Zx (g7.setIfInBounds kb (.cells (rsM w (j+1) lv (.slice pt w.told.length ct)).toArray 29):Hp)
  have w8:Jp g7 ⟨kb,1+j,none⟩ (.bool (w.nodes j).up)=some g8:=by
   rw[Yu B7.2,if_pos ⟨by rw[ZoW];omega,rfl⟩,ZyX w j lv _ ZD,hg8]
  have k8:Kp ZnX o7 g7 o7 g8:=by rw[hg8];exact (Kp.refl K7.ZU ZnX).set B7.1 (.inr rfl) _
  have k8':Kp (fun t=>t=.log 101) o7 g7 o7 g8:=by rw[hg8];exact (Kp.refl K7.ZU (fun t=>t=.log 101)).set B7.1 rfl _
  have B8:QK o7 (.log 101) g8 kb (.cells (rsM w (j+1) lv (.slice pt w.told.length ct)).toArray 29):=⟨B7.1,by rw[hg8];exact Zu B7.2⟩
  have O8:=O7.Zc k8' (by intro e;cases e)
  have L8:=Zhg L7 (R':=fun v l=>Im o7 5 g8 v l.length (Zz J7.C l)∧∀b,ZT v=some b→g4.size≤b) (fun v l q=>⟨q.1.Zc k8,q.2⟩)
  have K8:=K7.trans k8
  have N8:=N7.Zc k8 (fun t q=>non t j ZD q)
  have P8l:=(Zw N8.ZE.2 N8.pt.store.len).log
  obtain⟨pl,cl,hpl,_⟩:=YA.isSlice N8.pt.log
  have hpl:na.log=.slice pl (w.nodes j).log.length cl:=hpl
  rw[hpl]at P8l
  have Tl:=N8.pt.log.ts
  rw[hpl]at Tl
  have Zwh:=Za N8.ZE.2
  have l8:=Za B8.2
  obtain⟨plv,clv,rfl,_⟩:=O8.isSlice
  have r8:hc g8 ⟨kb,6,none⟩=some (.slice plv j clv):=Zg B8.2
  have cc:=ZnV T g8 (.slice pl (w.nodes j).log.length cl) (w.nodes j).log Tl (by have:=okW.log j ZD;omega)
  simp -implicitDefEqProofs only[go_sem,↓reduceIte,f2,f10,f54,f55,f56,ZL,ri,P7u,ZyI,w8,l7,hbn]
  refine VS.z (g8.size) [8,10] (.p 0 (.q 1 (.p 2 (.p 3 (.p 4 (.q 5 (.s 6 (.s 7 (.w 8 (.p 9 (.w 10 .nil))))))))))) mixed (by kernel_rfl) ?_
  simp -implicitDefEqProofs only[go_sem,↓reduceIte,f2,f10,r8,P8l,Zwh,l8]
  refine cc.use ?_
  rintro v9 g9 ⟨o9,b9⟩
  have k9:Kp J9 o7 g8 o7 g9:=ZB K8.ZU b9
  have im9:Im o7 5 g9 v9 (w.nodes j).log.length (Zz J7.C (w.nodes j).log):=Im.QV o9.own (fun b hb=>K8.ZU b hb)
  have lo9:∀b,ZT v9=some b→g4.size≤b:=fun b hb=>Nat.le_trans K8.size (o9.own.ZE b hb)
  obtain⟨p9,c9,rfl⟩:=im9.isSlice
  obtain⟨g10,Zwz⟩:=Zx (g9.push (.cells [.slice p9 (w.nodes j).log.length c9].toArray 41):Hp)
  have e10:=Zwz.symm
  have k10:Kp J9 o7 g9 o7 g10:=by rw[Zwz];exact ZV k9.ZU _
  have K10:Kp ZnX o4 g4 o7 g10:=(K8.trans (ZC k9)).trans (ZC k10)
  have B10:=(B8.Zc k9 (fun q=>q)).Zc k10 (fun q=>q)
  have O10:=(O8.Zc k9 (fun q=>q)).Zc k10 (fun q=>q)
  have ZG6:=im9.Zc k10
  have x10:g10[g9.size]? = some (.cells [.slice p9 (w.nodes j).log.length c9].toArray 41):=by rw[Zwz];exact Zb
  have src:Sl 1 g10 (.slice (some ⟨g9.size,0,none⟩) 1 1) 1 [.slice p9 (w.nodes j).log.length c9]:=⟨_,1,rfl,rfl,fun _=>⟨g9.size,0,rfl,fun i hi=>by
   rw[Zg x10,Yl,Nat.zero_add];exact List.getElem?_eq_getElem hi⟩⟩
  simp -implicitDefEqProofs only[go_sem,↓reduceIte,b9,e10]
  refine⟨by rw[Zwz];exact b9.Ye b9.size _,?_⟩
  refine Ju (E:=41) (n:=1) (bytes:=24) (k:=1) ZAm Tryz.underlying25 ZDZ ZD1 rfl ZD0 O10 K10.ZU src rfl (by omega) (by omega) ?_
  intro v11 o11 g11 O11 k11 _
  have k11:Kp (fun u=>u=.log 100) o7 g10 o11 g11:=k11
  obtain⟨p11,c11,rfl,_⟩:=O11.isSlice
  have B11:=B10.Zc k11 (by intro e;cases e)
  have l11:=Za B11.2
  obtain⟨g12,ZkF⟩:=Zx (g11.setIfInBounds kb (.cells (rsM w (j+1) (.slice p11 (j+1) c11) (.slice pt w.told.length ct)).toArray 29):Hp)
  have w12:Jp g11 ⟨kb,6,none⟩ (.slice p11 (j+1) c11)=some g12:=by
   rw[Yu B11.2,if_pos ⟨by rw[ZoW];omega,rfl⟩,Zwx,ZkF]
  have k12:Kp (fun t=>t=.log 101) o11 g11 o11 g12:=by rw[ZkF];exact (Kp.refl k11.ZU (fun t=>t=.log 101)).set B11.1 rfl _
  have B12:QK o11 (.log 101) g12 kb (.cells (rsM w (j+1) (.slice p11 (j+1) c11) (.slice pt w.told.length ct)).toArray 29):=⟨B11.1,by rw[ZkF];exact Zu B11.2⟩
  simp -implicitDefEqProofs only[go_sem,↓reduceIte,f10,w12,l11,f56]
  unfold Xo
  refine⟨⟨f2,f10,f54,f55,j+1,o11,.slice p11 (j+1) c11,vs++[.slice p9 (w.nodes j).log.length c9],ZD,rfl,(K10.trans (k11.mono fun t q=>.inl q)).trans (k12.mono fun t q=>.inr q),B12,O11.Zc k12 (by intro e;cases e),?_⟩,?_⟩
  ·rw[ZlM]
   refine Zlx (Zhg L8 fun v l q=>⟨((((q.1.Zc k9).Zc k10).Zc k11).Zc k12),q.2⟩) ⟨(ZG6.Zc k11).Zc k12,lo9⟩
  ·simp only[vi,Zk,↓reduceIte,f56];omega
 have YK:¬(j:Int)<5:=by omega
 obtain rfl:j=5:=by omega
 have bx7:ZM o7 g7 h.size (.cells rsZ.toArray 29):=ZM.Zc (ZM.Zc (o:=noO) ⟨rfl,rz g2 b2⟩ K4) K7
 have rk:rd g7 ⟨kb,0,none⟩ 13=some (rsM w 5 lv (.slice pt w.told.length ct)):=Zo B7.2 rfl
 obtain⟨g8,hg8⟩:=Zx (g7.setIfInBounds h.size (.cells (rsM w 5 lv (.slice pt w.told.length ct)).toArray 29):Hp)
 have w8:wr g7 ⟨h.size,0,none⟩ (rsM w 5 lv (.slice pt w.told.length ct))=some g8:=by
  obtain⟨plv,clv,rfl,_⟩:=O7.isSlice
  rw[ZQ bx7.2 0 _,hg8];rfl
 have l7:=Za bx7.2
 have r8:rd g8 ⟨h.size,0,none⟩ 13=some (rsM w 5 lv (.slice pt w.told.length ct)):=Zo (by rw[hg8];exact Zu bx7.2) rfl
 have K7a:Kp Zbd noO h o7 g7:=(kh2.trans K4).trans (Yb K7)
 have vl:vs.length=5:=by have:=O7.length;omega
 have bound:h.size<g4.size:=Nat.lt_of_lt_of_le (Za (rz g2 b2)) K4.size
 rw[show rsM w 5 lv (.slice pt w.told.length ct)=rsC w lv (.slice pt w.told.length ct) from rfl]at rk w8 r8
 unfold rsC at rk w8 r8
 simp -implicitDefEqProofs only[go_sem,↓reduceIte,f55,f56,YK,f2,f10,rk,w8,l7,r8]
 refine⟨by rw[hg8];exact (Zdh K7a).Zj (Nat.le_refl _) _,?_⟩
 unfold ZiG
 rw[hzero,if_pos rfl,←ZnY,←hw]
 refine⟨_,lv,.slice pt w.told.length ct,vs,rfl,fun G hG=>?_⟩
 have wt:=W7.told
 rw[hpt]at wt
 have Ys:∀b,b<g7.size→b≠h.size→G[b]? = g8[b]? → G[b]? = g7[b]?:=fun b _ h2 e=>by rw[e,hg8,Array.getElem?_setIfInBounds,if_neg (fun e=>h2 e.symm)]
 have hs8:g8.size=g7.size:=by rw[hg8];simp
 have own:∀t,∀b,o7 b=some t→b<g7.size→G[b]? = g7[b]?:=fun t b q1 q2=>Ys b q2 (fun e=>by rw[e,bx7.1]at q1;cases q1) (hG b (Zt9 K7a q1) (by omega))
 refine⟨rfl,⟨by rw[Zq2,vl];exact (ZoX O7 (own _)).sl⟩,?_,⟨(ZoX wt (own _)).sl⟩⟩
 refine Zhg (k:=Zhf w 5) L7 fun v l q=>⟨ZBF q.1 fun b hb ZD=>?_⟩
 have:=q.2 b hb
 exact Ys b ZD (by omega) (hG b (by omega) (by omega))
structure CmI (C:List Cm) (w v:Wd) (m:Nat):Prop where
 nd:∀i,i<5→JJ C i (v.nodes i)
 inb:∀i,i<5→∀l∈(v.nodes i).inbox,JI C l
 fly:v.Zl=w.Zl
 sum:Zdf (fun i=>(v.nodes i).inbox.length)≤Zdf (fun i=>(w.nodes i).inbox.length)+m
 wait:Zdf (fun i=>(v.nodes i).waiting.length)=Zdf (fun i=>(w.nodes i).waiting.length)
 told:v.told=w.told
 bad:v.bad=w.bad
theorem ZnZ {C:List Cm} {w:Wd} {l:Y6} (h1:∀i,i<5→JJ C i (w.nodes i)) (h2:∀i,i<5→∀l∈(w.nodes i).inbox,JI C l) (hl:JI C l):CmI C w (UM w l) 1:=by
 have hto:l.to.toNat<5:=by have:=hl.to;omega
 unfold UM
 split
 ·refine⟨fun i hi=>?_,fun i hi x hx=>?_,rfl,?_,?_,rfl,rfl⟩
  ·unfold Wd.set
   by_cases e:i=l.to.toNat
   ·simp only[if_pos e]
    rw[e]
    exact { h1 _ hto with }
   ·simp only[if_neg e];exact h1 i hi
  ·unfold Wd.set at hx
   by_cases e:i=l.to.toNat
   ·simp only[if_pos e]at hx
    rcases List.mem_append.1 hx with hx|hx
    ·exact h2 _ hto x hx
    ·have:x=l:=by simpa using hx
     rw[this];exact hl
   ·simp only[if_neg e]at hx;exact h2 i hi x hx
  ·have:=Zec w l.to.toNat { w.nodes l.to.toNat with inbox:=(w.nodes l.to.toNat).inbox++[l] } (fun n=>n.inbox.length) hto
   unfold Wd.set
   simp only[List.length_append,List.length_singleton]at this ⊢
   omega
  ·have:=Zec w l.to.toNat { w.nodes l.to.toNat with inbox:=(w.nodes l.to.toNat).inbox++[l] } (fun n=>n.waiting.length) hto
   unfold Wd.set
   simp only at this ⊢
   omega
 ·exact⟨h1,h2,rfl,by omega,rfl,rfl,rfl⟩
theorem ZwA {C:List Cm}:∀(ls:List Y6) (w:Wd),(∀i,i<5→JJ C i (w.nodes i))→(∀i,i<5→∀l∈(w.nodes i).inbox,JI C l)→(∀l∈ls,JI C l)→CmI C w (ls.foldl UM w) ls.length:=by
 intro ls
 induction ls with
 | nil=>intro w h1 h2 _;exact⟨h1,h2,rfl,by simp,rfl,rfl,rfl⟩
 | cons l ls ih=>
  intro w h1 h2 h3
  have a:=ZnZ h1 h2 (h3 l (by simp))
  have b:=ih (UM w l) a.nd a.inb (fun x hx=>h3 x (by simp[hx]))
  refine⟨b.nd,b.inb,by rw[List.foldl_cons,b.fly,a.fly],?_,by rw[List.foldl_cons,b.wait,a.wait],by rw[List.foldl_cons,b.told,a.told],by rw[List.foldl_cons,b.bad,a.bad]⟩
  have h4:=b.sum
  have h5:=a.sum
  simp only[List.foldl_cons,List.length_cons]
  omega
theorem WI.ZwB {C:List Cm} {k:Nat} {w u v:Wd} {m:Nat} (h:WI C k w) (c:CmI C u v m) (hu1:u.nodes=w.nodes) (hu2:∀l∈u.Zl,l∈w.Zl) (hu3:u.told=w.told) (hu4:u.bad=w.bad) (hm:u.Zl.length+m≤w.Zl.length+1):WI C (k+1) v:=by
 have hs:=c.sum
 have hw:=c.wait
 rw[hu1]at hs hw
 have h1:=h.room
 have h2:=h.wait
 refine⟨c.nd,c.inb,fun l hl=>h.fly l (hu2 l (by rw[←c.fly];exact hl)),?_,?_,fun i=>by rw[c.bad,hu4];have:=h.bad i;omega⟩
 ·rw[c.fly];omega
 ·rw[c.told,hu3,hw];omega
theorem Zy0 {C:List Cm} {k:Nat} {w:Wd} (h:WI C k w) (at':Nat) (comes stays:Bool):WI C (k+1) (pick w at' comes stays):=by
 unfold pick
 split
 ·exact h.more
 ·rename_i l hl
  have hlm:l∈w.Zl:=List.mem_of_getElem? hl
  have hll:=h.fly l hlm
  have el:(w.Zl.eraseIdx (at'%w.Zl.length)).length+1≤w.Zl.length+1:=by
   have:=List.length_eraseIdx_le w.Zl (at'%w.Zl.length);omega
  have el2:(w.Zl.eraseIdx (at'%w.Zl.length)).length≤w.Zl.length:=by omega
  cases comes with
  | true=>
   cases stays with
   | true=>exact h.ZwB (u:=w) (ZnZ h.nd h.inb hll) rfl (fun l q=>q) rfl rfl (by omega)
   | false=>exact h.ZwB (u:={ w with Zl:=w.Zl.eraseIdx (at'%w.Zl.length) }) (ZnZ h.nd h.inb hll) rfl (fun l q=>List.mem_of_mem_eraseIdx q) rfl rfl el
  | false=>
   cases stays with
   | true=>exact h.more
   | false=>exact h.ZwB (u:={ w with Zl:=w.Zl.eraseIdx (at'%w.Zl.length) }) (m:=0) ⟨h.nd,h.inb,rfl,by simp,rfl,rfl,rfl⟩ rfl (fun l q=>List.mem_of_mem_eraseIdx q) rfl rfl (by simp only;omega)
def Zdi (rc:List Nat):Cm:=⟨Xm ((JN rc).drop 22) 0,Xm ((JN rc).drop 22) 1,Xm ((JN rc).drop 22) 2,Xm ((JN rc).drop 22) 3,Xm ((JN rc).drop 22) 4⟩
theorem Zub (n:Nd) (x:Cm):(ZeB n x).waiting.length≤n.waiting.length+1:=by
 unfold ZeB;split
 ·omega
 ·simp
theorem Zuc {C:List Cm} {k:Nat} {w:Wd} (h:WI C k w) {i:Nat} (hi:i<5) {rc:List Nat} (hc:Zdi rc∈C):WI C (k+1) (Zc9 w i rc):=by
 unfold Zc9
 split
 ·split
  ·refine⟨h.nd,h.inb,h.fly,Nat.le_trans h.room (Nat.mul_le_mul_right _ (Nat.le_succ k)),Nat.le_trans h.wait (Nat.le_succ k),fun j=>?_⟩
   have h1:=h.bad j
   have h2:=h.bad i
   simp only
   split<;>omega
  ·rename_i q
   have e:Ui rc (w.nodes i).log.length=Zdi rc:=by
    unfold Ui Zdi
    rw[if_pos (by simpa using q)]
   rw[e]
   split
   ·have hw:=h.wait
    refine⟨h.nd,h.inb,h.fly,Nat.le_trans h.room (Nat.mul_le_mul_right _ (Nat.le_succ k)),by simp only[List.length_append,List.length_singleton];omega,fun j=>by have:=h.bad j;simp only;omega⟩
   ·rw[Zau]
    have ha:=Zxi (h.nd i hi) hc
    have s1:(add (w.nodes i) (Zdi rc)).inbox=(w.nodes i).inbox:=by unfold add;split<;>rfl
    have s2:(ZeB (add (w.nodes i) (Zdi rc)) (Zdi rc)).inbox=(w.nodes i).inbox:=by unfold ZeB;split<;>exact s1
    have s3:=Zub (add (w.nodes i) (Zdi rc)) (Zdi rc)
    have s4:=(add_same (w.nodes i) (Zdi rc)).1
    refine h.out hi ?_ (fun l hl=>by cases hl) (by simp only[s2];exact h.inb i hi) (by simp only[s2];simp) (by simp only[List.length_nil];rw[s4]at s3;omega)
    unfold ZeB
    simp only
    split
    ·exact ha
    ·exact { ha with }
 ·exact h.more
theorem Zxj {C:List Cm} (hC:C.length≤100000) {k:Nat} {w:Wd} (h:WI C k w) (a:Ac) (hi:a.node<5) (hc:Zdi a.data∈C):WI C (k+1) (act w a):=by
 have hn:=h.nd a.node hi
 have hb:=h.inb a.node hi
 unfold act
 split
 ·exact Zuc h hi hc
 split
 ·obtain⟨l1,l2,l3⟩:=Zt5 hn
  rw[Zau]
  exact h.out hi l1 (fun l hl=>by cases hl) (by simp only[l2];exact hb) (by simp only[l2];simp) (by simp only[l3];simp)
 split
 ·obtain⟨s1,s2,s3,s4,s5⟩:=ZyQ hi hC hn hb
  exact h.out hi s1 s2 s3 (by omega) (by omega)
 split
 ·exact Zy0 h _ _ _
 split
 ·have c:=ZwA w.Zl { w with Zl:=[] } h.nd h.inb h.fly
  exact h.ZwB c rfl (fun l hl=>by cases hl) rfl rfl (by simp)
 split
 ·obtain⟨c1,c2⟩:=Zq1 hn a.Zc
  rw[Zau]
  rcases c2 with⟨c2,c3⟩|c2
  ·exact h.out hi c1 (fun l hl=>by cases hl) (by simp only[c2];intro l hl;cases hl) (by simp only[c2];simp) (by simp only[c3];simp)
  ·exact h.out hi c1 (fun l hl=>by cases hl) (by simp only[c2];exact hb) (by simp only[c2];simp) (by simp only[c2];simp)
 ·obtain⟨c1,c2⟩:=ZiF hn
  rw[Zau]
  rcases c2 with⟨c2,c3⟩|c2
  ·exact h.out hi c1 (fun l hl=>by cases hl) (by simp only[c2];intro l hl;cases hl) (by simp only[c2];simp) (by simp only[c3];simp)
  ·exact h.out hi c1 (fun l hl=>by cases hl) (by simp only[c2];exact hb) (by simp only[c2];simp) (by simp only[c2];simp)
theorem Zhh (C:List Cm):WI C 0 ZaJ:=by
 refine⟨fun i hi=>ZfP (by simp) AcI.zero,(fun i hi l hl=>by cases hl),(fun l hl=>by cases hl),by simp[ZaJ,Zdf,blank],by simp[ZaJ,Zdf,blank],fun i=>by simp[ZaJ]⟩
theorem Zud {C:List Cm} (hC:C.length≤100000):∀(l:List Ac) (k:Nat) (w:Wd),WI C k w→(∀a∈l,a.node<5∧Zdi a.data∈C)→WI C (k+l.length) (l.foldl act w):=by
 intro l
 induction l with
 | nil=>intro k w h _;exact h
 | cons a l ih=>
  intro k w h hl
  have:=ih (k+1) (act w a) (Zxj hC h a (hl a (by simp)).1 (hl a (by simp)).2) (fun x hx=>hl x (by simp[hx]))
  rw[List.length_cons,show k+(l.length+1)=k+1+l.length by omega]
  exact this
theorem ZwC (xs:List (Raw × Value)) (hz:∀x∈Xw xs,x.err=0) (hl:xs.length≤100000) (j:Nat) (hj:j≤xs.length):WOk (Za7 (((Xw xs).take j).map Raw.ac)):=by
 obtain⟨C,hC⟩:=Zx ((Xw xs).map fun x=>Zdi x.data)
 have rl:(Xw xs).length=xs.length:=by unfold Xw;simp
 have hCl:C.length≤100000:=by rw[hC,List.length_map,rl];exact hl
 have:=Zud hCl (((Xw xs).take j).map Raw.ac) 0 ZaJ (Zhh C) (fun a ha=>by
  obtain⟨x,hx,rfl⟩:=List.mem_map.1 ha
  have hx:=List.mem_of_mem_take hx
  obtain⟨_,h2,_,_,_⟩:=ZjK (hz x hx)
  refine⟨by unfold Raw.ac;simp only;omega,?_⟩
  rw[hC]
  exact List.mem_map.2 ⟨x,hx,rfl⟩)
 refine this.ok hCl ?_
 rw[List.length_map,List.length_take]
 omega
theorem ZwD (T:World) (h:Hp) (v:Value) (xs:List (Raw × Value)) (hv:Ts Zac 5 h v xs) (hx:∀x∈xs,ImB noO h x.2 x.1.data) (tb:Tbs noO h) (hxl:xs.length≤4611686018427387904) :
  Zd Tryz.prog T 6 #[v] h fun v' h'=>Zf h.size h h'∧ZiG h.size h' v' (Xw xs):=
 Zwy T h v xs hv hx tb hxl fun h1 h2 j hj=>ZwC xs h1 h2 j hj
def Qa (n m:Int):Int:=(if n<0 then 0-(n+1) else n)%m
theorem UF (n:Int) {m:Int} (h:0<m):0≤Qa n m∧Qa n m<m:=⟨Int.emod_nonneg _ (by omega),Int.emod_lt_of_pos _ h⟩
def i64 (n:Int):Prop:=-9223372036854775808≤n∧n<9223372036854775808
theorem UG (T:World) (h:Hp) (n m:Int) (hn:i64 n) (hm:1≤m) (hm2:m≤1000000) :
  Zd Tryz.prog T 49 #[.int .i64 n,.int .i64 m] h fun v' h'=>v'=.int .i64 (Qa n m)∧h'=h:=by
 unfold i64 at hn
 refine Zd.Zi (args:=[_,_]) Tryz.func49 rfl rfl rfl rfl ?_
 have hm0:¬m=0:=by omega
 by_cases q:n<0
 ·have e:Qa n m=(0-(n+1)).tmod m:=by unfold Qa;rw[if_pos q,Int.tmod_eq_emod_of_nonneg (by omega)]
  rw[e]
  simp -implicitDefEqProofs only[go_sem,↓reduceIte,q,hm0]
 ·have e:Qa n m=n.tmod m:=by unfold Qa;rw[if_neg q,Int.tmod_eq_emod_of_nonneg (by omega)]
  rw[e]
  simp -implicitDefEqProofs only[go_sem,↓reduceIte,q,hm0]
theorem X2 (T:World) (h:Hp) (n m:Int) (hn:i64 n) (hm:1≤m) (hm2:m≤1000000) :
  Zd Tryz.prog T 33 #[.int .i64 n,.int .i64 m] h fun v' h'=>v'=.int .i64 (Qa n m)∧h'=h:=by
 refine Zd.Zi (args:=[_,_]) Tryz.func33 rfl rfl rfl rfl ?_
 simp -implicitDefEqProofs only[go_sem,↓reduceIte]
 refine (UG T h n m hn hm hm2).pure ?_
 simp -implicitDefEqProofs only[go_sem,↓reduceIte]
def ZBI (k c s n v:Int):List Value:=[.int .i64 k,.int .i64 c,.int .i64 s,.int .i64 n,.int .i64 v]
def cmW (k c s n v:Int):Cm:=⟨1+(Qa k 5).tdiv 2,Qa c 4,Qa s 6,Qa n 4,if 1+(Qa k 5).tdiv 2=1 then Qa v 1000 else 0⟩
theorem ZlN (T:World) (h:Hp) (k c s n v:Int) (hk:i64 k) (hc:i64 c) (hs:i64 s) (hn:i64 n) (hv:i64 v) :
  Zd Tryz.prog T 50 #[.agg (ZBI k c s n v).toArray] h fun v' h'=>v'=.agg (cmW k c s n v).C.toArray∧Zf h.size h h':=by
 refine Zd.Zi (args:=[_]) Tryz.func50 rfl rfl rfl rfl ?_
 unfold ZBI
 simp -implicitDefEqProofs only[go_sem,↓reduceIte]
 refine VS.w (h.size+2) [16] (.q 0 (.q 1 (.q 2 (.q 3 (.q 4 (.q 5 (.q 6 (.q 7 (.q 8 (.q 9 (.q 10 (.q 11 (.q 12 (.q 13 (.q 14 (.s 15 (.w 16 .nil))))))))))))))))) mixed (by kernel_rfl) ?_
 simp -implicitDefEqProofs only[go_sem,↓reduceIte]
 refine JG (fun h=>UG T h k 5 hk (by omega) (by omega)) ?_
 simp -implicitDefEqProofs only[go_sem,↓reduceIte]
 refine JG (fun h=>UG T h c 4 hc (by omega) (by omega)) ?_
 simp -implicitDefEqProofs only[go_sem,↓reduceIte]
 refine JG (fun h=>UG T h s 6 hs (by omega) (by omega)) ?_
 simp -implicitDefEqProofs only[go_sem,↓reduceIte]
 refine JG (fun h=>UG T h n 4 hn (by omega) (by omega)) ?_
 have r1:=UF k (m:=5) (by omega)
 generalize hkk:Qa k 5=K at *
 have r2:0≤K.tdiv 2∧K.tdiv 2≤2:=by rw[Int.tdiv_eq_ediv_of_nonneg r1.1];omega
 unfold cmW
 rw[hkk]
 generalize K.tdiv 2=J at *
 by_cases q:1+J=1
 ·simp -implicitDefEqProofs only[go_sem,↓reduceIte,q]
  refine⟨Zf.push (by simp) _,(UG T _ v 1000 hv (by omega) (by omega)).pure ?_⟩
  simp -implicitDefEqProofs only[go_sem,↓reduceIte,q]
  exact⟨rfl,(((Zf.refl _ _).add _).add _).add _⟩
 ·simp -implicitDefEqProofs only[go_sem,↓reduceIte,q]
  exact⟨Zf.push (by simp) _,rfl,(((Zf.refl _ _).add _).add _).add _⟩
structure Gr where
 k:Int
 a:Int
 b:Int
 c:Int
 d:Int
def Gr.C (g:Gr):List Value:=[.int .i64 g.k,.int .i64 g.a,.int .i64 g.b,.int .i64 g.c,.int .i64 g.d]
def Gr.ok (g:Gr):Prop:=(i64 g.k∧i64 g.a)∧i64 g.b∧i64 g.c∧i64 g.d
def gCm (g:Gr):Cm:=cmW g.b g.c g.d g.a g.d
def gTc (g:Gr):Int:=if Qa g.d 17=16 then ((gCm g).c+1).tmod 4 else (gCm g).c
def gTr (g:Gr):Int:=if Qa g.d 17=15 then 0 else 7
def Zy1 (n c r u:Int) (x:Cm):List Nat:=if ZaG n c r u x.k x.c x.s x.n x.v=0 then Zqt n c r u x.k x.c x.s x.n x.v else []
def Zbf (g:Gr):List Nat:=Zy1 (Qa g.a 1000) (gTc g) (gTr g) 60 (gCm g)
def Zcb (g:Gr):List Nat:=if Qa g.d 23=22∧30<(Zbf g).length then (Zbf g).take 30 else Zbf g
theorem ZjM (T:World) (h:Hp) (g:Gr) (hg:g.ok) (tk:Tk h) :
  Zd Tryz.prog T 34 #[.agg g.C.toArray] h fun v' h'=>ZZ h.size 5 h' v' (Zcb g)∧Zf h.size h h':=by
 obtain⟨⟨wk,wa⟩,wb,wc,wd⟩:=hg
 refine Zd.Zi (args:=[_]) Tryz.func34 rfl rfl rfl rfl ?_
 unfold Gr.C
 have c1:∀h:Hp,Zd Tryz.prog T 50 #[.agg #[.int .i64 g.b,.int .i64 g.c,.int .i64 g.d,.int .i64 g.a,.int .i64 g.d]] h fun v' h'=>v'=.agg (gCm g).C.toArray∧Zf h.size h h':=fun h=>ZlN T h g.b g.c g.d g.a g.d wb wc wd wa wd
 obtain⟨h0,XO⟩:=Zx (h.push (.cells g.C.toArray 83):Hp)
 have y0:h0[h.size]? = some (.cells g.C.toArray 83):=by rw[XO];exact Zb
 have b0:Zf h.size h h0:=by rw[XO];exact (Zf.refl _ _).add _
 have e0:=XO.symm
 unfold Gr.C at e0 y0
 have s0:h0.size=h.size+1:=by rw[XO];simp
 have l0:=Za y0
 have u1:hc h0 ⟨h.size,1,none⟩=some (.int .i64 g.a):=Zg y0
 have u2:hc h0 ⟨h.size,2,none⟩=some (.int .i64 g.b):=Zg y0
 have u3:hc h0 ⟨h.size,3,none⟩=some (.int .i64 g.c):=Zg y0
 have u4:hc h0 ⟨h.size,4,none⟩=some (.int .i64 g.d):=Zg y0
 simp -implicitDefEqProofs only[go_sem,↓reduceIte,e0,u1,u2,u3,u4,l0]
 refine (c1 h0).use ?_
 rintro _ h1 ⟨rfl,b1⟩
 have B1:Zf h.size h h1:=b0.trans (b1.mono b0.size)
 have s1:=b1.size
 have y1:=b1.get l0 y0
 obtain⟨X,hX⟩:=Zx (gCm g)
 rw[←hX]
 have hXc:0≤X.c∧X.c<4:=by rw[hX];exact UF g.c (by omega)
 obtain⟨h2,hh2⟩:=Zx ((h1.push (.cells X.C.toArray 77)).push (.cells [.int .i64 X.c,.int .i64 7,.int .i64 60].toArray 134):Hp)
 have e2:=hh2.symm
 unfold J7.C Qr at e2 ⊢
 have y4:hc h2 ⟨h.size,4,none⟩=some (.int .i64 g.d):=by
  have:h2[h.size]? = some (.cells [.int .i64 g.k,.int .i64 g.a,.int .i64 g.b,.int .i64 g.c,.int .i64 g.d].toArray 83):=by
   rw[hh2,Zq (by simp;omega),Zq (by omega)];exact y1
  exact Zg this
 simp -implicitDefEqProofs only[go_sem,↓reduceIte,e2,y4]
 refine (X2 T h2 g.d 17 wd (by omega) (by omega)).pure ?_
 have s2:h2.size=h1.size+2:=by rw[hh2];simp
 have t2:h2[h1.size+1]? = some (.cells [.int .i64 X.c,.int .i64 7,.int .i64 60].toArray 134):=by rw[hh2,Array.getElem?_push,if_pos (by simp)]
 have x2:h2[h1.size]? = some (.cells X.C.toArray 77):=by rw[hh2,Zq (by simp),Zb]
 have b2:Zf h1.size h1 h2:=by rw[hh2];exact ((Zf.refl _ _).add _).add _
 have yg2:=b2.get (Za y1) y1
 have B2:Zf h.size h h2:=B1.trans (b2.mono B1.size)
 have Ys:h1.size+1≠h.size:=by have:=B1.size;omega
 have Zk6:h1.size+1≠h1.size:=by omega
 clear e2 hh2 e0 XO y4
 have three:∀tc tr:Int,tc=gTc g→tr=gTr g→∃g3:Hp,g3=h2.setIfInBounds (h1.size+1) (.cells [.int .i64 tc,.int .i64 tr,.int .i64 60].toArray 134)∧Zf h.size h g3∧g3.size=h2.size∧g3[h1.size+1]? = some (.cells [.int .i64 (gTc g),.int .i64 (gTr g),.int .i64 60].toArray 134)∧g3[h1.size]? = some (.cells X.C.toArray 77)∧g3[h.size]? = some (.cells [.int .i64 g.k,.int .i64 g.a,.int .i64 g.b,.int .i64 g.c,.int .i64 g.d].toArray 83):=fun tc tr e1 e2=>by
  refine⟨_,rfl,B2.Zj (by have:=B1.size;omega) _,by simp,?_,?_,?_⟩
  ·rw[←e1,←e2];exact Zu t2
  ·rw[Yf Zk6];exact x2
  ·rw[Yf Ys];exact yg2
 have rc2:hc h2 ⟨h1.size+1,0,none⟩=some (.int .i64 X.c):=Zg t2
 have l2:=Za t2
 have h3c:∃g3:Hp,((Qa g.d 17=15∧Jp h2 ⟨h1.size+1,1,none⟩ (.int .i64 0)=some g3)∨(Qa g.d 17=16∧Jp h2 ⟨h1.size+1,0,none⟩ (.int .i64 ((X.c+1).tmod 4))=some g3)∨((¬Qa g.d 17=15∧¬Qa g.d 17=16)∧g3=h2))∧Zf h.size h g3∧g3.size=h2.size∧g3[h1.size+1]? = some (.cells [.int .i64 (gTc g),.int .i64 (gTr g),.int .i64 60].toArray 134)∧g3[h1.size]? = some (.cells X.C.toArray 77)∧g3[h.size]? = some (.cells [.int .i64 g.k,.int .i64 g.a,.int .i64 g.b,.int .i64 g.c,.int .i64 g.d].toArray 83):=by
  by_cases q15:Qa g.d 17=15
  ·obtain⟨g3,hg3,z⟩:=three X.c 0 (by unfold gTc;rw[if_neg (by omega),hX]) (by unfold gTr;rw[if_pos q15])
   exact⟨g3,.inl ⟨q15,by rw[Yu t2 1 _,hg3];rfl⟩,z⟩
  by_cases q16:Qa g.d 17=16
  ·obtain⟨g3,hg3,z⟩:=three ((X.c+1).tmod 4) 7 (by unfold gTc;rw[if_pos q16,hX]) (by unfold gTr;rw[if_neg q15])
   exact⟨g3,.inr (.inl ⟨q16,by rw[Yu t2 0 _,hg3];rfl⟩),z⟩
  ·obtain⟨g3,hg3,z⟩:=three X.c 7 (by unfold gTc;rw[if_neg q16,hX]) (by unfold gTr;rw[if_neg q15])
   exact⟨g3,.inr (.inr ⟨⟨q15,q16⟩,by rw[hg3];exact ZdS t2⟩),z⟩
 obtain⟨g3,Zg6,B3,s3,t3,x3,y3⟩:=h3c
 have ra:hc g3 ⟨h.size,1,none⟩=some (.int .i64 g.a):=Zg y3
 have rt:rd g3 ⟨h1.size+1,0,none⟩ 3=some [.int .i64 (gTc g),.int .i64 (gTr g),.int .i64 60]:=Zo t3 rfl
 have rx:rd g3 ⟨h1.size,0,none⟩ 5=some [.int .i64 X.k,.int .i64 X.c,.int .i64 X.s,.int .i64 X.n,.int .i64 X.v]:=Zo x3 rfl
 have ly:=Za y3
 have lt:=Za t3
 have lx:=Za x3
 have pk:=ZvV T g3 (Qa g.a 1000) (gTc g) (gTr g) 60 X.k X.c X.s X.n X.v (tk.Jq B3)
 unfold Zbl Qr at pk
 clear three b2 t2 x2 yg2 b1 y1 b0 y0
 rcases Zg6 with⟨q15,w3⟩|⟨q16,w3⟩|⟨⟨q15,q16⟩,e23⟩
 case' inl=>simp -implicitDefEqProofs only[go_sem,↓reduceIte,q15,w3]
 case' inr.inl=>have q15:¬(16:Int)=15:=by decide
 case' inr.inl=>simp -implicitDefEqProofs only[go_sem,↓reduceIte,q16,rc2,w3]
 case' inr.inr=>subst e23
 case' inr.inr=>simp -implicitDefEqProofs only[go_sem,↓reduceIte,q15,q16]
 all_goals
  refine VS.w (g3.size) [] (.q 0 (.q 1 (.q 2 (.q 3 (.q 4 (.s 5 (.q 6 (.q 7 (.q 8 (.q 9 (.q 10 .nil))))))))))) mixed (by kernel_rfl) ?_
  simp -implicitDefEqProofs only[go_sem,↓reduceIte,ra,rt,rx,ly,lt,lx]
  refine JG (fun h=>X2 T h g.a 1000 wa (by omega) (by omega)) ?_
  simp -implicitDefEqProofs only[go_sem,↓reduceIte,rt,rx,lt,lx]
  refine pk.use ?_
  rintro _ h4 ⟨⟨w,rfl,o4⟩,b4⟩
  have B4:=B3.trans (b4.mono B3.size)
  have eF:(if ZaG (Qa g.a 1000) (gTc g) (gTr g) 60 X.k X.c X.s X.n X.v=0 then Zqt (Qa g.a 1000) (gTc g) (gTr g) 60 X.k X.c X.s X.n X.v else [])=Zbf g:=by unfold Zbf Zy1;rw[←hX]
  rw[eF]at o4
  have o4:=o4.mono B3.size
  obtain⟨p4,c4,rfl,_⟩:=o4.open
  have yd:hc h4 ⟨h.size,4,none⟩=some (.int .i64 g.d):=Zg (b4.get ly y3)
  simp -implicitDefEqProofs only[go_sem,↓reduceIte,yd,b4]
  refine (X2 T h4 g.d 23 wd (by omega) (by omega)).pure ?_
  by_cases q22:Qa g.d 23=22
  ·by_cases q30:30<(Zbf g).length
   ·have Zy2:((Zbf g).length:Int)>30:=by omega
    have eD:Zcb g=(Zbf g).take 30:=by unfold Zcb;rw[if_pos ⟨q22,q30⟩]
    simp -implicitDefEqProofs only[go_sem,↓reduceIte,q22,Zy2]
    have hf:=o4.own.Zcy (m:=30) (by omega)
    rw[eD]
    refine⟨⟨?_,fun x hx=>o4.byte x (List.mem_of_mem_take hx)⟩,B4⟩
    rw[List.length_take,Nat.min_eq_left (by omega),List.map_take]
    exact hf
   ·have Zy2:¬((Zbf g).length:Int)>30:=by omega
    have eD:Zcb g=Zbf g:=by unfold Zcb;rw[if_neg (fun h=>q30 h.2)]
    simp -implicitDefEqProofs only[go_sem,↓reduceIte,q22,Zy2]
    rw[eD]
    exact⟨o4,B4⟩
  ·have eD:Zcb g=Zbf g:=by unfold Zcb;rw[if_neg (fun h=>q22 h.1)]
   simp -implicitDefEqProofs only[go_sem,↓reduceIte,q22]
   rw[eD]
   exact⟨o4,B4⟩
def ZaN (g:Gr) (cr:Bool):Raw:=
 if Qa g.k 24<3 then ⟨1,Qa g.a 5,0,0,Zcb g⟩ else if Qa g.k 24<5 then ⟨2,Qa g.a 5,0,0,[]⟩ else if Qa g.k 24<14 then ⟨3,Qa g.a 5,0,0,[]⟩
 else if Qa g.k 24=14 then ⟨4,0,Qa g.c 20,0,[]⟩ else if Qa g.k 24=15 then ⟨5,0,Qa g.c 20,0,[]⟩ else if Qa g.k 24=16 then ⟨6,0,Qa g.c 20,0,[]⟩
 else if Qa g.k 24=17∧cr=true then ⟨8,Qa g.a 5,0,Qa g.c 90,[]⟩ else if Qa g.k 24=18∧cr=true then ⟨9,Qa g.a 5,0,0,[]⟩ else ⟨7,0,0,0,[]⟩
theorem Zq3 (T:World) (h:Hp) (g:Gr) (cr:Bool) (hg:g.ok) (tk:Tk h) :
  Zd Tryz.prog T 20 #[.agg g.C.toArray,.bool cr] h fun v' h'=>(∃w,v'=.agg (Zac (ZaN g cr,w)).toArray∧ZZ h.size 5 h' w (ZaN g cr).data)∧Zf h.size h h':=by
 have pkc:=fun h tk=>ZjM T h g hg tk
 obtain⟨⟨wk,wa⟩,wb,wc,wd⟩:=hg
 refine Zd.Zi (args:=[_,_]) Tryz.func20 rfl rfl rfl rfl ?_
 unfold Gr.C at *
 obtain⟨h0,XO⟩:=Zx ((h.push (.cells [.int .i64 g.k,.int .i64 g.a,.int .i64 g.b,.int .i64 g.c,.int .i64 g.d].toArray 83)).push (.cells (acC 0 0 0 0 (.slice none 0 0)).toArray 46):Hp)
 have e0:=XO.symm
 have y0:h0[h.size]? = some (.cells [.int .i64 g.k,.int .i64 g.a,.int .i64 g.b,.int .i64 g.c,.int .i64 g.d].toArray 83):=by rw[XO,Zq (by simp),Zb]
 have z0:h0[h.size+1]? = some (.cells (acC 0 0 0 0 (.slice none 0 0)).toArray 46):=by rw[XO,Array.getElem?_push,if_pos (by simp)]
 have b0:Zf h.size h h0:=by rw[XO];exact ((Zf.refl _ _).add _).add _
 have u0:hc h0 ⟨h.size,0,none⟩=some (.int .i64 g.k):=Zg y0
 have u1:hc h0 ⟨h.size,1,none⟩=some (.int .i64 g.a):=Zg y0
 have u3:hc h0 ⟨h.size,3,none⟩=some (.int .i64 g.c):=Zg y0
 have ry:rd h0 ⟨h.size,0,none⟩ 5=some [.int .i64 g.k,.int .i64 g.a,.int .i64 g.b,.int .i64 g.c,.int .i64 g.d]:=Zo y0 rfl
 have ly:=Za y0
 have lz:=Za z0
 have rk:=UF g.k (m:=24) (by omega)
 unfold acC at e0
 simp -implicitDefEqProofs only[go_sem,↓reduceIte,e0,u1,u0]
 refine (X2 T h0 g.a 5 wa (by omega) (by omega)).pure ?_
 simp -implicitDefEqProofs only[go_sem,↓reduceIte,u0]
 refine (X2 T h0 g.k 24 wk (by omega) (by omega)).pure ?_
 obtain⟨A,hA⟩:=Zx (Qa g.a 5)
 rw[←hA]
 have fin:∀(g4:Hp) (k n a b:Int) (p:Option Addr) (m c:Nat) (l:List Nat),g4[h.size+1]? = some (.cells (acC 0 0 0 0 (.slice none 0 0)).toArray 46)→Zf h.size h g4→ZZ (h.size+2) 5 g4 (.slice p m c) l→ZaN g cr=⟨k,n,a,b,l⟩ →
   wr g4 ⟨h.size+1,0,none⟩ [.int .i64 k,.int .i64 n,.int .i64 a,.int .i64 b,.slice p m c]=some (g4.setIfInBounds (h.size+1) (.cells (acC k n a b (.slice p m c)).toArray 46)) ∧
   rd (g4.setIfInBounds (h.size+1) (.cells (acC k n a b (.slice p m c)).toArray 46)) ⟨h.size+1,0,none⟩ 5=some [.int .i64 k,.int .i64 n,.int .i64 a,.int .i64 b,.slice p m c] ∧
   ((∃w,Value.agg [.int .i64 k,.int .i64 n,.int .i64 a,.int .i64 b,.slice p m c].toArray=.agg (Zac (ZaN g cr,w)).toArray∧ZZ h.size 5 (g4.setIfInBounds (h.size+1) (.cells (acC k n a b (.slice p m c)).toArray 46)) w (ZaN g cr).data)∧Zf h.size h (g4.setIfInBounds (h.size+1) (.cells (acC k n a b (.slice p m c)).toArray 46))):=fun g4 k n a b p m c l y4 b4 o4 e=>by
  refine⟨by rw[ZQ y4 0 _];rfl,Zo (Zu y4) rfl,⟨.slice p m c,by rw[e];rfl,?_⟩,b4.Zj (by omega) _⟩
  rw[e]
  exact (o4.ZR (by omega) _).mono (by omega)
 have nil:=fun B=>ZZ.nil B 5 h0
 have c0:Qa g.k 24<3∨(¬Qa g.k 24<3∧Qa g.k 24<5)∨(¬Qa g.k 24<5∧Qa g.k 24<14)∨Qa g.k 24=14∨Qa g.k 24=15∨Qa g.k 24=16∨Qa g.k 24=17∨Qa g.k 24=18∨18<Qa g.k 24:=by omega
 obtain⟨K,hK⟩:=Zx (Qa g.k 24)
 rw[←hK]at c0 rk ⊢
 rcases c0 with c|⟨c,c'⟩|⟨c,c'⟩|c|c|c|c|c|c
 ·simp -implicitDefEqProofs only[go_sem,↓reduceIte,c,ry,ly]
  refine (pkc h0 (tk.Jq b0)).use ?_
  rintro w g4 ⟨o4,b4⟩
  obtain⟨p,cp,rfl,_⟩:=o4.open
  have s0:h0.size=h.size+2:=by rw[XO];simp
  obtain⟨f1,f2,f3⟩:=fin g4 1 A 0 0 p _ cp (Zcb g) (b4.get lz z0) (b0.trans (b4.mono b0.size)) (o4.mono (by omega)) (by unfold ZaN;rw[←hK,if_pos c,←hA])
  have l4:=Za (b4.get lz z0)
  simp -implicitDefEqProofs only[go_sem,↓reduceIte,f1,f2,l4]
  exact f3
 ·obtain⟨f1,f2,f3⟩:=fin h0 2 A 0 0 none 0 0 [] z0 b0 (nil _) (by unfold ZaN;rw[←hK];rw[if_neg c,if_pos c',←hA])
  simp -implicitDefEqProofs only[go_sem,↓reduceIte,c,c',f1,f2,lz]
  exact f3
 ·obtain⟨f1,f2,f3⟩:=fin h0 3 A 0 0 none 0 0 [] z0 b0 (nil _) (by unfold ZaN;rw[←hK];rw[if_neg (by omega),if_neg c,if_pos c',←hA])
  have c2:¬K<3:=by omega
  simp -implicitDefEqProofs only[go_sem,↓reduceIte,c,c',c2,f1,f2,lz]
  exact f3
 ·obtain⟨f1,f2,f3⟩:=fin h0 4 0 (Qa g.c 20) 0 none 0 0 [] z0 b0 (nil _) (by unfold ZaN;rw[←hK];rw[c];rfl)
  have t14:¬(14:Int)<3:=by decide
  simp -implicitDefEqProofs only[go_sem,↓reduceIte,c,u3]
  refine (X2 T h0 g.c 20 wc (by omega) (by omega)).pure ?_
  simp -implicitDefEqProofs only[go_sem,↓reduceIte,f1,f2,lz]
  exact f3
 ·obtain⟨f1,f2,f3⟩:=fin h0 5 0 (Qa g.c 20) 0 none 0 0 [] z0 b0 (nil _) (by unfold ZaN;rw[←hK];rw[c];rfl)
  have t15:¬(15:Int)<3:=by decide
  simp -implicitDefEqProofs only[go_sem,↓reduceIte,c,u3]
  refine (X2 T h0 g.c 20 wc (by omega) (by omega)).pure ?_
  simp -implicitDefEqProofs only[go_sem,↓reduceIte,f1,f2,lz]
  exact f3
 ·obtain⟨f1,f2,f3⟩:=fin h0 6 0 (Qa g.c 20) 0 none 0 0 [] z0 b0 (nil _) (by unfold ZaN;rw[←hK];rw[c];rfl)
  have t16:¬(16:Int)<3:=by decide
  simp -implicitDefEqProofs only[go_sem,↓reduceIte,c,u3]
  refine (X2 T h0 g.c 20 wc (by omega) (by omega)).pure ?_
  simp -implicitDefEqProofs only[go_sem,↓reduceIte,f1,f2,lz]
  exact f3
 ·cases cr with
  | true=>
   obtain⟨f1,f2,f3⟩:=fin h0 8 A 0 (Qa g.c 90) none 0 0 [] z0 b0 (nil _) (by unfold ZaN;rw[←hK,c,←hA];rfl)
   simp -implicitDefEqProofs only[go_sem,↓reduceIte,c,u3]
   refine (X2 T h0 g.c 90 wc (by omega) (by omega)).pure ?_
   simp -implicitDefEqProofs only[go_sem,↓reduceIte,f1,f2,lz]
   exact f3
  | false=>
   obtain⟨f1,f2,f3⟩:=fin h0 7 0 0 0 none 0 0 [] z0 b0 (nil _) (by unfold ZaN;rw[←hK,c];rfl)
   simp -implicitDefEqProofs only[go_sem,↓reduceIte,c,f1,f2,lz]
   exact f3
 ·cases cr with
  | true=>
   obtain⟨f1,f2,f3⟩:=fin h0 9 A 0 0 none 0 0 [] z0 b0 (nil _) (by unfold ZaN;rw[←hK,c,←hA];rfl)
   simp -implicitDefEqProofs only[go_sem,↓reduceIte,c,f1,f2,lz]
   exact f3
  | false=>
   obtain⟨f1,f2,f3⟩:=fin h0 7 0 0 0 none 0 0 [] z0 b0 (nil _) (by unfold ZaN;rw[←hK,c];rfl)
   simp -implicitDefEqProofs only[go_sem,↓reduceIte,c,f1,f2,lz]
   exact f3
 ·obtain⟨f1,f2,f3⟩:=fin h0 7 0 0 0 none 0 0 [] z0 b0 (nil _) (by unfold ZaN;rw[←hK,if_neg (by omega),if_neg (by omega),if_neg (by omega),if_neg (by omega),if_neg (by omega),if_neg (by omega),if_neg (by omega),if_neg (by omega)])
  have c3:¬K<3:=by omega
  have c5:¬K<5:=by omega
  have c14:¬K<14:=by omega
  have d14:¬K=14:=by omega
  have d15:¬K=15:=by omega
  have d16:¬K=16:=by omega
  have d17:¬K=17:=by omega
  have d18:¬K=18:=by omega
  simp -implicitDefEqProofs only[go_sem,↓reduceIte,c3,c5,c14,d14,d15,d16,d17,d18,f1,f2,lz]
  exact f3
def ZBJ:Raw:=⟨7,0,0,0,[]⟩
def ZcB (n:Nat) (a:Raw):Raw:=if a.k=1∧6<n+1 then ZBJ else a
def Zcw (cr:Bool) (st:Nat × List Raw) (g:Gr):Nat × List Raw:=(if (ZaN g cr).k=1 then st.1+1 else st.1,st.2++[ZcB st.1 (ZaN g cr)])
def Zcc (gs:List Gr) (cr:Bool) (j:Nat):Nat × List Raw:=(gs.take j).foldl (Zcw cr) (0,[])
def scr (gs:List Gr) (XB:Nat) (cr:Bool):List Raw:=(Zcc gs cr XB).2
theorem ZiI (gs:List Gr) (cr:Bool) (j:Nat) (hj:j<gs.length):Zcc gs cr (j+1)=Zcw cr (Zcc gs cr j) gs[j]:=by
 unfold Zcc
 rw[Yi gs j hj,List.foldl_append]
 rfl
theorem Zed (gs:List Gr) (cr:Bool):∀j,j≤gs.length→(Zcc gs cr j).2.length=j∧(Zcc gs cr j).1≤j:=by
 intro j
 induction j with
 | zero=>intro _;exact⟨rfl,Nat.le_refl _⟩
 | succ j ih=>
  intro h
  obtain⟨h1,h2⟩:=ih (by omega)
  rw[ZiI gs cr j (by omega)]
  unfold Zcw
  simp only[List.length_append,List.length_singleton]
  refine⟨by omega,?_⟩
  split<;>omega
theorem ZlO (gs:List Gr) (cr:Bool) (j:Nat) (h:gs.length≤j):Zcc gs cr j=Zcc gs cr gs.length:=by
 unfold Zcc
 rw[List.take_of_length_le h,List.take_of_length_le (Nat.le_refl _)]
theorem Zq4 {B:Nat} {h:Hp} {v:Value} {l:List Nat} {o:Ow} (s:ZZ B 5 h v l) (hf:∀b,B≤b→o b=none):ImB o h v l:=⟨Im.QV s.own hf,s.byte⟩
set_option maxHeartbeats 4000000 in
theorem Zq5 (T:World) (h:Hp) (v:Value) (gs:List Gr) (XB:Nat) (cr:Bool) (hv:Ts Gr.C 5 h v gs) (hg:∀g∈gs,g.ok) (hm:XB≤1000000) (tk:Tk h) :
  Zd Tryz.prog T 10 #[v,.int .i64 XB,.bool cr] h fun v' h'=>Zf h.size h h'∧Cap v'∧∃ys,Xw ys=scr gs XB cr∧Ts Zac 5 h' v' ys∧∀y∈ys,ImB noO h' y.2 y.1.data:=by
 obtain⟨p,c,rfl,YR⟩:=hv.open (n:=5) (enc:=Gr.C) (fun _=>rfl) (by decide)
 refine Zd.Zi (args:=[_,_,_]) Tryz.func10 rfl rfl rfl rfl ?_
 simp -implicitDefEqProofs only[go_sem,↓reduceIte]
 refine VS.ZW (fun F g=>(F 0=.slice p gs.length c∧F 1=.int .i64 XB∧F 2=.bool cr)∧∃(j:Nat) (o:Ow) (ys:List (Raw × Value)),j≤gs.length∧j≤XB∧F 9=.int .i64 j∧F 8=.int .i64 ((Zcc gs cr j).1:Nat)∧Kp (fun t=>t=.log 100) noO h o g∧Xw ys=(Zcc gs cr j).2∧YA o (.log 100) 46 5 g (F 7) ys.length (Zz Zac ys)∧∀y∈ys,ImB o g y.2 y.1.data)
  (fun F _=>gs.length-(vi (F 9)).toNat) rfl ⟨⟨rfl,rfl,rfl⟩,0,noO,[],Nat.zero_le _,Nat.zero_le _,rfl,rfl,Kp.refl (Zdg h) _,rfl,YA.nil _ _ _ _ _,fun y hy=>by cases hy⟩ ?_
 rintro F2 g2 ⟨⟨f0,f1,f2⟩,j,o2,ys,hj,hjm,f9,f8,K2,hr,O2,I2⟩
 have yl:ys.length=j:=by
  have:=congrArg List.length hr
  unfold Xw at this
  rw[List.length_map,(Zed gs cr j hj).1]at this
  exact this
 obtain⟨p3,c3,f3,hc3⟩:=O2.isSlice
 by_cases ZD:j<gs.length∧j<XB
 ·obtain⟨ZD,ZG7⟩:=ZD
  have ZL:(j:Int)<gs.length:=by omega
  have ZBK:(j:Int)<XB:=by omega
  obtain⟨bb,oo,rfl,hbb,hrd⟩:=YR (by intro e;rw[e]at ZD;simp at ZD)
  obtain⟨g,hg0⟩:=Zx (gs[j])
  have hgm:g∈gs:=by rw[hg0];exact List.getElem_mem ZD
  have r1:rd g2 ⟨bb,oo+j*5,none⟩ 5=some g.C:=by rw[JP (Zdh K2) hbb,hg0];exact (hrd j ZD).rd (by simp[Gr.C]) rfl
  have ca:=Zq3 T g2 g cr (hg g hgm) (tk.Jq (Zdh K2))
  unfold Gr.C at ca r1
  simp -implicitDefEqProofs only[go_sem,↓reduceIte,f0,f1,f2,f9,ZL,ZBK,r1]
  refine ca.use ?_
  rintro vv g3 ⟨⟨w,hvv,o3⟩,b3⟩
  obtain⟨a,ha⟩:=Zx (ZaN g cr)
  rw[←ha]at o3 hvv
  obtain⟨p4,c4,rfl,_⟩:=o3.open
  have hvv:vv=.agg #[.int .i64 a.k,.int .i64 a.n,.int .i64 a.a,.int .i64 a.b,.slice p4 a.data.length c4]:=by rw[hvv];rfl
  subst hvv
  obtain⟨n,hn⟩:=Zx ((Zcc gs cr j).1)
  rw[←hn]at f8
  have hnj:n≤j:=by rw[hn];exact (Zed gs cr j hj).2
  obtain⟨g4,hg4⟩:=Zx (g3.push (.cells (acC a.k a.n a.a a.b (.slice p4 a.data.length c4)).toArray 46):Hp)
  have e4:=hg4.symm
  have y4:g4[g3.size]? = some (.cells (acC a.k a.n a.a a.b (.slice p4 a.data.length c4)).toArray 46):=by rw[hg4];exact Zb
  have K3:Kp J9 o2 g2 o2 g3:=ZB K2.ZU b3
  have k4:Kp J9 o2 g3 o2 g4:=by rw[hg4];exact ZV K3.ZU _
  have K4:=K3.trans k4
  have i3:ImB o2 g3 (.slice p4 a.data.length c4) a.data:=Zq4 o3 (fun b hb=>K2.ZU b hb)
  have i4:=i3.Zc k4
  have rk:hc g4 ⟨g3.size,0,none⟩=some (.int .i64 a.k):=Zg y4
  have l4:=Za y4
  have hs3:=b3.size
  have h5c:∃(g5:Hp) (q:Option Addr) (cq:Nat),((¬a.k=1∧g5=g4)∨((a.k=1∧¬(n:Int)+1>6)∧g5=g4)∨((a.k=1∧(n:Int)+1>6)∧wr g4 ⟨g3.size,0,none⟩ [.int .i64 7,.int .i64 0,.int .i64 0,.int .i64 0,.slice none 0 0]=some g5)) ∧
    g5[g3.size]? = some (.cells (acC (ZcB n a).k (ZcB n a).n (ZcB n a).a (ZcB n a).b (.slice q (ZcB n a).data.length cq)).toArray 46)∧Kp J9 o2 g2 o2 g5∧ImB o2 g5 (.slice q (ZcB n a).data.length cq) (ZcB n a).data∧g3.size<g5.size:=by
   by_cases q1:a.k=1
   ·by_cases q6:6<n+1
    ·have eX:ZcB n a=ZBJ:=by unfold ZcB;rw[if_pos ⟨q1,q6⟩]
     rw[eX]
     refine⟨_,none,0,.inr (.inr ⟨⟨q1,by omega⟩,by rw[ZQ y4 0 _];rfl⟩),Zu y4,K4.ZmN (by omega) _,⟨Im.nil _ 1 _ none,fun x hx=>by cases hx⟩,by simpa using l4⟩
    ·have eX:ZcB n a=a:=by unfold ZcB;rw[if_neg (fun h=>q6 h.2)]
     rw[eX]
     exact⟨g4,p4,c4,.inr (.inl ⟨⟨q1,by omega⟩,rfl⟩),y4,K4,i4,l4⟩
   ·have eX:ZcB n a=a:=by unfold ZcB;rw[if_neg (fun h=>q1 h.1)]
    rw[eX]
    exact⟨g4,p4,c4,.inl ⟨q1,rfl⟩,y4,K4,i4,l4⟩
  obtain⟨g5,q,cq,Zg6,y5,K5,i5,l5⟩:=h5c
  obtain⟨X,hX⟩:=Zx (ZcB n a)
  rw[←hX]at y5 i5
  have eN:Zcc gs cr (j+1)=(if a.k=1 then n+1 else n,(Zcc gs cr j).2++[X]):=by rw[ZiI gs cr j ZD,←hg0];unfold Zcw;rw[←ha,←hn,hX]
  have r5:rd g5 ⟨g3.size,0,none⟩ 5=some (acC X.k X.n X.a X.b (.slice q X.data.length cq)):=Zo y5 rfl
  obtain⟨g6,hg6⟩:=Zx (g5.push (.cells (acC X.k X.n X.a X.b (.slice q X.data.length cq)).toArray 46):Hp)
  have e6:=hg6.symm
  have k6:Kp J9 o2 g5 o2 g6:=by rw[hg6];exact ZV K5.ZU _
  have x6:g6[g5.size]? = some (.cells (acC X.k X.n X.a X.b (.slice q X.data.length cq)).toArray 46):=by rw[hg6];exact Zb
  have src:Sl 5 g6 (.slice (some ⟨g5.size,0,none⟩) 1 1) 1 (acC X.k X.n X.a X.b (.slice q X.data.length cq)):=⟨_,1,rfl,rfl,fun _=>⟨g5.size,0,rfl,fun i hi=>by
   rw[Zg x6,Yl,Nat.zero_add];exact List.getElem?_eq_getElem hi⟩⟩
  have O6:=(O2.Zc K5 (fun q=>q)).Zc k6 (fun q=>q)
  rw[f3]at O6
  have stp:∀v7 o7 (g7:Hp),YA o7 (.log 100) 46 5 g7 v7 (ys.length+1) (Zz Zac ys++acC X.k X.n X.a X.b (.slice q X.data.length cq))→Kp (fun u=>u=.log 100) o2 g6 o7 g7 →
    Kp (fun t=>t=.log 100) noO h o7 g7∧Xw (ys++[(X,.slice q X.data.length cq)])=(Zcc gs cr (j+1)).2∧YA o7 (.log 100) 46 5 g7 v7 (ys++[(X,Value.slice q X.data.length cq)]).length (Zz Zac (ys++[(X,.slice q X.data.length cq)]))∧∀y∈ys++[(X,Value.slice q X.data.length cq)],ImB o7 g7 y.2 y.1.data:=fun v7 o7 g7 O7 k7=>by
   refine⟨((K2.trans (ZC K5)).trans (ZC k6)).trans k7,?_,?_,fun y hy=>?_⟩
   ·rw[eN,←hr]
    unfold Xw
    simp only[List.map_append,List.map_cons,List.map_nil]
   ·have e:Zz Zac (ys++[(X,.slice q X.data.length cq)])=Zz Zac ys++acC X.k X.n X.a X.b (.slice q X.data.length cq):=by rw[Yh,Q9];rfl
    rw[e,List.length_append]
    exact O7
   ·rcases List.mem_append.1 hy with hy|hy
    ·exact (((I2 y hy).Zc K5).Zc k6).Zc k7
    ·rw[List.mem_singleton.1 hy]
     exact (i5.Zc k6).Zc k7
  unfold acC at e4 r5 e6
  rcases Zg6 with⟨q1,e54⟩|⟨⟨q1,q6⟩,e54⟩|⟨⟨q1,q6⟩,w5⟩
  case' inl=>subst e54
  case' inl=>simp -implicitDefEqProofs only[go_sem,↓reduceIte,e4,rk,q1,r5,l5,e6,f3]
  case' inr.inl=>subst e54
  case' inr.inl=>have q1t:=eq_true q1
  case' inr.inl=>simp -implicitDefEqProofs only[go_sem,↓reduceIte,e4,rk,q1t,f8,q6,r5,l5,e6,f3]
  case' inr.inr=>have q1t:=eq_true q1
  case' inr.inr=>simp -implicitDefEqProofs only[go_sem,↓reduceIte,e4,rk,q1t,f8,q6,w5,l4,r5,l5,e6,f3]
  all_goals
   refine Ju (E:=46) (n:=5) (bytes:=56) (k:=1) ZAl Tryz.underlying22 ZD6 ZD8 rfl ZD7 O6 k6.ZU src rfl (by omega) (by omega) ?_
   intro v7 o7 g7 O7 k7 _
   have k7:Kp (fun u=>u=.log 100) o2 g6 o7 g7:=k7
   obtain⟨z1,z2,z3,z4⟩:=stp v7 o7 g7 O7 k7
   simp -implicitDefEqProofs only[go_sem,↓reduceIte,f9]
   unfold Xo
   refine⟨⟨⟨f0,f1,f2⟩,j+1,o7,ys++[(X,Value.slice q X.data.length cq)],ZD,ZG7,rfl,?_,z1,z2,?_,z4⟩,?_⟩
   ·rw[eN]
    first
    | (rw[if_pos q1];rfl)
    | (rw[if_neg q1];exact f8)
   ·exact z3
   ·simp only[vi,Zk,↓reduceIte,f9];omega
 have e9:scr gs XB cr=(Zcc gs cr j).2:=by
  unfold scr
  by_cases q:j<gs.length
  ·rw[show XB=j by omega]
  ·rw[show j=gs.length by omega,ZlO gs cr XB (by omega)]
 by_cases Zeq:j<gs.length
 ·have ZL:(j:Int)<gs.length:=by omega
  have YK:¬(j:Int)<XB:=by omega
  simp -implicitDefEqProofs only[go_sem,↓reduceIte,f0,f1,f9,ZL,YK]
  exact⟨Zdh K2,by rw[f3];exact hc3,ys,by rw[hr,e9],⟨O2.sl⟩,fun y hy=>⟨⟨(I2 y hy).1.sl,(I2 y hy).1.fits,fun b hb=>⟨((I2 y hy).1.free b hb).1,rfl⟩⟩,(I2 y hy).2⟩⟩
 ·have ZL:¬(j:Int)<gs.length:=by omega
  simp -implicitDefEqProofs only[go_sem,↓reduceIte,f0,f1,f9,ZL]
  exact⟨Zdh K2,by rw[f3];exact hc3,ys,by rw[hr,e9],⟨O2.sl⟩,fun y hy=>⟨⟨(I2 y hy).1.sl,(I2 y hy).1.fits,fun b hb=>⟨((I2 y hy).1.free b hb).1,rfl⟩⟩,(I2 y hy).2⟩⟩
end Go.Proofs.YtnhbpmoeaodmnaaGreatDoor

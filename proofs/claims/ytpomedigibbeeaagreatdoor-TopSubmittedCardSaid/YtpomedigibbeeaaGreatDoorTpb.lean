/- The pieces of an act: setting a node, what a tape's records make, all letters come. -/
import Derived.Test.YtpomedigibbeeaaGreatDoorMdg
import Derived.Test.YtpomedigibbeeaaGreatDoorLchks
import Derived.Test.YtpomedigibbeeaaGreatDoorPak
namespace Go.Proofs.YtpomedigibbeeaaGreatDoor
open Go Go.V
set_option linter.unusedSimpArgs false
set_option linter.unusedVariables false
set_option maxRecDepth 100000
theorem Zbg {l:List Nat} {a r:Qw} {k j:Nat} (h:Rec l a k r j):∀f,l.length+1≤k+f→Ku l f a k=(r,j):=by
 induction h with
 | stop e=>
  intro f hf
  cases f with
  | zero=>rfl
  | succ f=>unfold Ku;rw[e]
 | @go a a' r k k' j e _ ih=>
  intro f hf
  have e':=e
  unfold Yl at e'
  split at e'
  ·rename_i q
   rw[Option.map_eq_some_iff]at e'
   obtain⟨x,_,hx⟩:=e'
   have hk:k'=k+(Um l k+4):=(congrArg Prod.snd hx).symm
   cases f with
   | zero=>omega
   | succ f=>
    unfold Ku
    rw[e]
    exact ih f (by omega)
  ·cases e'
theorem SX {l:List Nat} {r:Qw} {k:Nat} (h:Rec l XU 0 r k):Wg l=(r,k):=Zbg h _ (by omega)
theorem H5 {o:Ow} {h:Hp} {wb:Nat} {Z8:Nat→Nat} {YH:WA} {fl:List Y3} {bad:Nat→Int} {told:List S9} (d:Uq o h) (W:ZG o h wb Z8 YH fl bad told) (i nb:Nat) (hi:i<5) :
  ∃b off c g,YH.nodes=.slice (some ⟨b,off,none⟩) 5 c∧Jx h ⟨b,off+i,none⟩ (Zo nb)=some g∧Kp (fun t=>t=.nodes) o h o g∧ZG o g wb (fun j=>if j=i then nb else Z8 j) YH fl bad told:=by
 rcases hw:W.nodes with⟨_,e,_⟩|⟨b,off,cap,pre,spare,g1,g2,g3,g4,g5,g6,g7⟩
 ·cases e
 have hw':Jx h ⟨b,off+i,none⟩ (Zo nb)=some (h.setIfInBounds b (.cells (pre++([Zo (Z8 0),Zo (Z8 1),Zo (Z8 2),Zo (Z8 3),Zo (Z8 4)].set i (Zo nb)++spare)).toArray 98)):=by
  rw[Yz g3,if_pos ⟨by simp only[List.length_append,List.length_cons];omega,rfl⟩]
  rw[←g4,List.set_append_right _ _ (by omega),Nat.add_sub_cancel_left,List.set_append_left _ _ (by simpa using hi)]
 have kk:Kp (fun t=>t=.nodes) o h o (h.setIfInBounds b (.cells (pre++([Zo (Z8 0),Zo (Z8 1),Zo (Z8 2),Zo (Z8 3),Zo (Z8 4)].set i (Zo nb)++spare)).toArray 98)):=(Kp.refl d (fun t=>t=.nodes)).set g1 rfl _
 refine⟨b,off,cap,_,g2,hw',kk,W.ZF.Zc kk (by intro e;cases e),?_,W.Zm.Zc kk (by intro e;cases e),W.told.Zc kk (by intro e;cases e)⟩
 refine .inr ⟨b,off,cap,pre,spare,g1,g2,?_,g4,rfl,g6,g7⟩
 rw[Zv g3]
 match i,hi with
 | 0,_=>rfl
 | 1,_=>rfl
 | 2,_=>rfl
 | 3,_=>rfl
 | 4,_=>rfl
def VT (k n a b:Int) (d:Value):List Value:=[.int .i64 k,.int .i64 n,.int .i64 a,.int .i64 b,d]
structure WOk (w:Wd):Prop where
 me:∀i,i<5→(w.nodes i).me=i
 step:∀i,i<5→ar (w.nodes i) w.Zm.length w.told.length
 queue:∀i,i<5→(w.nodes i).queue.length≤100000000000
 log:∀i,i<5→(w.nodes i).log.length≤100000000000
 waiting:∀i,i<5→(w.nodes i).waiting.length≤100000000000
 inbox:∀i,i<5→(w.nodes i).inbox.length≤100000000000
 data:∀i,i<5→(w.nodes i).data.length≤1000000
 told:w.told.length≤100000000000
 bad:∀i,i<5→0≤w.bad i∧w.bad i≤1000000000000
 ZoZ:∀i,i<5→(w.nodes i).own.p.r≤1000000000000∧(w.nodes i).heard.r≤1000000000000 ∧ -1000000000000≤(w.nodes i).own.p.r ∧ -1000000000000≤(w.nodes i).heard.r
 rgn:∀i,i<5→∀r,(w.nodes i).Zi=some r→r.b.r≤1000000000000 ∧ -1000000000000≤r.b.r
 to:∀l∈w.Zm,0≤l.to∧l.to<5
 room:w.Zm.length≤100000000000
theorem Jf.fresh {o o':Ow} {h h':Hp} {wb:Nat} {Z8:Nat→Nat} {YH:WA} {w:Wd} {i nb:Nat} {a:NA} {n:Nd} (A:Jf o h wb Z8 YH w) (k:Kp (fun t=>t=.nodes∨t.of=some i) o h o' h')
  (N:ZJ o' h' wb i nb a n) (W:ZG o' h' wb (fun j=>if j=i then nb else Z8 j) YH w.Zm w.bad w.told):Jf o' h' wb (fun j=>if j=i then nb else Z8 j) YH (w.set i n):=by
 refine⟨W,fun j hj=>?_⟩
 by_cases e:j=i
 ·subst e
  refine⟨a,?_⟩
  unfold Wd.set
  simpa using N
 ·obtain⟨b,M⟩:=A.nd j hj
  refine⟨b,?_⟩
  unfold Wd.set
  simp only[if_neg e]
  refine M.Zc k fun t q hq=>?_
  rcases q with rfl|q
  ·cases hq
  ·rw[hq]at q;exact e (Option.some.inj q)
theorem D7 (w:Wd) (i:Nat):w.set i (w.nodes i)=w:=by
 unfold Wd.set
 have:(fun j=>if j=i then w.nodes i else w.nodes j)=w.nodes:=by
  funext j;split
  ·next e=>rw[e]
  ·rfl
 rw[this]
theorem KM {o:Ow} {h':Hp} {p:Option Addr} {c:Nat} {L:List Nat} (d:Uq o h') (hb:Bs h' (.slice p L.length c) L) (hc:L.length≤c) (hf:∀b,ZO (.slice p L.length c)=some b→o b=none∧b<h'.size):Tv o h' (.slice p L.length c) L:=
 ⟨⟨hb.sl,⟨p,c,rfl,hc⟩,fun b q=>⟨(hf b q).2,(hf b q).1⟩⟩,hb.byte⟩
theorem D8 {o:Ow} {h:Hp} {v:Value} {l:List Nat} {k:Nat} (d:Uq o h) (s:Tv o h v l) (hk:k<h.size) (hv:∀b,ZO v=some b→b≠k) (x:Obj):Tv o (h.setIfInBounds k x) v l:=by
 have d2:Uq (Jz o k Tg.nodes) h:=fun b hb=>by rw[Y7 (by omega)];exact d b hb
 have s2:Tv (Jz o k Tg.nodes) h v l:=⟨⟨s.1.sl,s.1.fits,fun b hb=>⟨(s.1.free b hb).1,by rw[Y7 (hv b hb)];exact (s.1.free b hb).2⟩⟩,s.2⟩
 have k2:Kp (fun t=>t=Tg.nodes) (Jz o k Tg.nodes) h (Jz o k Tg.nodes) (h.setIfInBounds k x):=(Kp.refl d2 (fun t=>t=Tg.nodes)).set Y1 rfl x
 have s3:=s2.Zc k2
 exact⟨⟨s3.1.sl,s3.1.fits,fun b hb=>⟨(s3.1.free b hb).1,(s.1.free b hb).2⟩⟩,s3.2⟩
theorem az (i:Nat) (n:Nd) (k:Int) (L:List Nat) (Z E:Int) (hu:n.up=true) (h:Sb n.data n.Y9 k=(L,Z,E)):crashed i n k = { blank i true L Z XU with up:=false }:=by
 unfold crashed
 rw[if_pos hu]
 unfold Sb at h
 by_cases c:YO n.data n.Y9
 ·rw[if_pos (show n.data.length≤100000∧0≤n.Y9∧n.Y9≤n.data.length from c)]at h
  by_cases q:k<0
  ·rw[if_pos q]at h
   cases h
   rw[if_neg (fun e=>by have:=e.2;omega)];rfl
  ·rw[if_neg q]at h
   cases h
   rw[if_pos ⟨c,by omega⟩];rfl
 ·rw[if_neg (show ¬(n.data.length≤100000∧0≤n.Y9∧n.Y9≤n.data.length) from c)]at h
  cases h
  rw[if_neg (fun e=>c e.1)];rfl
theorem aA (w:Wd) (l:Y3) (i:Nat):((Ue w l).nodes i).inbox.length≤(w.nodes i).inbox.length+1:=by
 unfold Ue
 split
 ·unfold Wd.set
  simp only
  split
  ·next e=>subst e;simp
  ·omega
 ·omega
theorem D9 (i:Nat):∀(ls:List Y3) (w:Wd),((ls.foldl Ue w).nodes i).inbox.length≤(w.nodes i).inbox.length+ls.length:=by
 intro ls
 induction ls with
 | nil=>intro w;simp
 | cons l ls ih=>
  intro w
  have h1:=ih (Ue w l)
  have h2:=aA w l i
  simp only[List.foldl_cons,List.length_cons]
  omega
def Wj (l:List Vt):Prop:=(∀x∈l,Z6 x)∧l.Pairwise (fun a b=>a.slot<b.slot)
structure IV (a:Qw):Prop where
 bal:ZM a.p∨(a.p.r=0∧a.p.n=0)
 Xt:Wj a.l
def OK (b:YG):Prop:=0≤b.r∧b.r≤65536
theorem aB:∀(l:List Vt) (a:Int),l.Pairwise (fun a b=>a.slot<b.slot)→(∀x∈l,a≤x.slot∧x.slot≤39)→a≤40→(l.length:Int)≤40-a:=by
 intro l
 induction l with
 | nil=>intro a _ _ h;simp;omega
 | cons x l ih=>
  intro a hp hx ha
  rw[List.pairwise_cons]at hp
  have h1:=hx x (by simp)
  have:=ih (x.slot+1) hp.2 (fun y hy=>⟨by have:=hp.1 y hy;omega,(hx y (by simp[hy])).2⟩) (by omega)
  simp only[List.length_cons]
  omega
theorem Wj.len {l:List Vt} (h:Wj l):l.length≤40:=by
 have:=aB l 0 h.2 (fun x hx=>⟨(h.1 x hx).1.1,(h.1 x hx).1.2⟩) (by omega)
 omega
theorem Wj.nil:Wj []:=⟨fun x hx=>by (cases hx),.nil⟩
theorem Wj.ins {l:List Vt} (h:Wj l) {v:Vt} (hv:Z6 v):Wj (JA l v):=by
 unfold JA
 refine⟨fun x hx=>?_,?_⟩
 ·rcases List.mem_append.1 hx with hx|hx
  ·exact h.1 x (List.mem_filter.1 hx).1
  ·rcases List.mem_cons.1 hx with rfl|hx
   ·exact hv
   ·exact h.1 x (List.mem_filter.1 hx).1
 ·rw[List.pairwise_append,List.pairwise_cons]
  refine⟨h.2.sublist List.filter_sublist,⟨fun y hy=>by simpa using (List.mem_filter.1 hy).2,h.2.sublist List.filter_sublist⟩,fun x hx y hy=>?_⟩
  have h1:x.slot<v.slot:=by simpa using (List.mem_filter.1 hx).2
  rcases List.mem_cons.1 hy with rfl|hy
  ·exact h1
  ·have h2:v.slot<y.slot:=by simpa using (List.mem_filter.1 hy).2
   omega
theorem IV.zero:IV XU:=⟨.inr ⟨rfl,rfl⟩,Wj.nil⟩
theorem ZM.I {b:YG} (h:ZM b):OK b:=⟨by have:=h.1.1;omega,h.1.2⟩
theorem IV.iE {a:Qw} (h:IV a):OK a.p:=by
 rcases h.bal with q|q
 ·exact q.I
 ·unfold OK;omega
structure JS (C:List Cm) (l:Y3):Prop where
 kind:0≤l.kind∧l.kind≤7
 Jt:0≤l.Jt∧l.Jt<5
 to:0≤l.to∧l.to<5
 b:OK l.b
 slot:0≤l.v.slot∧l.v.slot<40
 vs:Wj l.vs
 cmd:l.kind=4→l.v.cm∈C
def Vo {β:Type} (m:Int) (l:List (Int × β)):Prop:=(l.map (·.1)).Nodup∧∀x∈l.map (·.1),0≤x∧x<m
theorem Vo.nil {β:Type} (m:Int):Vo m ([]:List (Int × β)):=⟨by simp,fun x hx=>by (cases hx)⟩
theorem Vo.ins {β:Type} {m:Int} {l:List (Int × β)} (h:Vo m l) {k:Int} (hk:0≤k∧k<m) (v:β):Vo m (ins l k v):=by
 obtain⟨h1,h2⟩:=DU (k:=k) (v:=v) h.1
 refine⟨h1,fun x hx=>?_⟩
 rcases h2 x hx with rfl|q
 ·exact hk
 ·exact h.2 x q
theorem iF:∀(m:Nat) (l:List Int),l.Nodup→(∀x∈l,0≤x∧x<(m:Int))→l.length≤m:=by
 intro m
 induction m with
 | zero=>
  intro l _ h
  cases l with
  | nil=>simp
  | cons x l=>have:=h x (by simp);omega
 | succ m ih=>
  intro l hn h
  have h1:=ih (l.erase (m:Int)) (hn.erase _) (fun x hx=>by
   have hx':=(List.Nodup.mem_erase_iff hn).1 hx
   have:=h x hx'.2
   have:x≠(m:Int):=hx'.1
   omega)
  have:l.length≤(l.erase (m:Int)).length+1:=by rw[List.length_erase];split<;>omega
  omega
theorem Vo.len {β:Type} {m:Nat} {l:List (Int × β)} (h:Vo (m:Int) l):l.length≤m:=by
 have:=iF m _ h.1 h.2
 simpa using this
structure Pc (r:Jj):Prop where
 b:OK r.b
 prom:Vo 5 r.prom
 vs:∀x∈r.prom,Wj x.2
 VO:∀x∈r.Xt,Vo 5 x.2
def Zf9:DM→Prop
 | .MD a to b vs=>IV a∧(0≤to∧to<5)∧OK b∧Wj vs
 | .Mi a to v=>IV a∧(0≤to∧to<5)∧Z6 v
 | .own a vs _=>IV a∧Wj vs
structure JT (C:List Cm) (i:Nat) (n:Nd):Prop where
 me:n.me=i
 Xk:0≤n.Xk∧n.Xk<5
 own:IV n.own
 heard:OK n.heard
 ZA:∀p,n.ZA=some p→Zf9 p
 Zi:∀r,n.Zi=some r→Pc r
 known:Vo 40 n.known
 log:∀j,j<n.log.length→(Yr n.known (j:Int)).isSome=true
 queue:n.queue.Nodup∧∀x∈n.queue,x∈C
 data:n.data.length≤100000
theorem JT.Fz {C:List Cm} {i:Nat} {n:Nd} (h:JT C i n):n.log.length≤40:=by
 have h1:=DS n.known 0 n.log.length (fun j hj=>by simpa using h.log j hj)
 have h2:=h.known.len (m:=40)
 omega
theorem SY {p:YG} {l:List Vt} {b:YG} (h:Yq p l b=0):ZM b:=by
 unfold Yq at h
 by_cases c1:Xx p l≠0
 ·rw[if_pos c1]at h;cases h
 ·rw[if_neg c1]at h
  by_cases c2:¬ZM b
  ·rw[if_pos c2]at h;cases h
  ·simpa using c2
theorem Nr {p:YG} {l:List Vt} {x:Vt} (h:YK p l x=0):Z6 x:=by
 unfold YK at h
 by_cases c1:Xx p l≠0
 ·rw[if_pos c1]at h;cases h
 ·rw[if_neg c1]at h
  by_cases c2:¬Z6 x
  ·rw[if_pos c2]at h;cases h
  ·simpa using c2
theorem Ca {l:List Nat} {n:Int} {k:Nat} (h:JJ l n k=0):l.length+(k+5)≤100000:=by
 unfold JJ at h
 by_cases c1:¬YO l n
 ·rw[if_pos c1]at h;cases h
 ·rw[if_neg c1]at h
  by_cases c2:100000<l.length+(k+5)
  ·rw[if_pos c2]at h;cases h
  ·omega
theorem OL {l:List Nat} {n:Int} {b:YG} (h:J2 l n b=0):l.length+14≤100000:=by
 unfold J2 at h
 by_cases c1:¬YO l n
 ·rw[if_pos c1]at h;cases h
 ·rw[if_neg c1]at h
  by_cases c2:¬ZM b
  ·rw[if_pos c2]at h;cases h
  ·rw[if_neg c2]at h;exact Ca h
theorem Cb {l:List Nat} {n:Int} {x:Vt} (h:QY l n x=0):l.length+38≤100000:=by
 unfold QY at h
 by_cases c1:¬YO l n
 ·rw[if_pos c1]at h;cases h
 ·rw[if_neg c1]at h
  by_cases c2:¬Z6 x
  ·rw[if_pos c2]at h;cases h
  ·rw[if_neg c2]at h;exact Ca h
theorem M0 (b:YG):(Yk (XT b)).length=14:=by rw[Uk];rfl
theorem dk (x:Vt):(Yk (Qv x)).length=38:=by rw[Uk];rfl
structure Tx (C:List Cm) (i:Nat) (n:Nd) (o:Out):Prop where
 nd:JT C i o.n
 ls:∀l∈o.ls,JS C l
 few:o.ls.length≤1
 ts:o.ts.length+o.n.waiting.length≤n.waiting.length
theorem Tx.same {C:List Cm} {i:Nat} {n:Nd} (h:JT C i n):Tx C i n ⟨n,[],[]⟩:=⟨h,(fun l hl=>by cases hl),by simp,by simp⟩
theorem Tx.one {C:List Cm} {i:Nat} {n:Nd} (h:JT C i n) {l:Y3} (hl:JS C l):Tx C i n ⟨n,[l],[]⟩:=⟨h,fun x hx=>by
 have:x=l:=by simpa using hx
 rw[this];exact hl,by simp,by simp⟩
theorem aC {C:List Cm} {i:Nat} {n:Nd} {l:Y3} (hi:i<5) (h:JT C i n) (hl:JS C l):Tx C i n (YR n l):=by
 have FL:0≤(n.me:Int)∧(n.me:Int)<5:=by rw[h.me];omega
 have v0:0≤VX.slot∧VX.slot<40:=by decide
 unfold YR
 by_cases c1:Yq n.own.p n.own.l l.b≠0
 ·rw[if_pos c1]
  exact Tx.one h ⟨by simp,FL,hl.Jt,h.own.iE,v0,Wj.nil,fun e=>by cases e⟩
 rw[if_neg c1]
 have hb:ZM l.b:=SY (by simpa using c1)
 by_cases c2:n.own.p=l.b
 ·rw[if_pos c2]
  exact Tx.one h ⟨by simp,FL,hl.Jt,hl.b,v0,h.own.Xt,fun e=>by cases e⟩
 rw[if_neg c2]
 by_cases c3:J2 n.data n.Y9 l.b≠0
 ·rw[if_pos c3];exact Tx.same h
 rw[if_neg c3]
 have hd:=OL (by simpa using c3)
 refine⟨{ h with ZA:=?_,data:=?_ },(fun x hx=>by cases hx),by simp,by simp⟩
 ·intro p hp
  obtain rfl:=Option.some.inj hp
  exact⟨⟨.inl hb,h.own.Xt⟩,hl.Jt,hb.I,h.own.Xt⟩
 ·show (n.data++Yk (XT l.b)).length≤100000
  rw[List.length_append,M0];exact hd
theorem vz {C:List Cm} {i:Nat} {n:Nd} {l:Y3} (hi:i<5) (h:JT C i n) (hl:JS C l):Tx C i n (asked n l):=by
 have FL:0≤(n.me:Int)∧(n.me:Int)<5:=by rw[h.me];omega
 have v0:0≤VX.slot∧VX.slot<40:=by decide
 unfold asked
 by_cases c1:YK n.own.p n.own.l l.v≠0
 ·rw[if_pos c1]
  exact Tx.one h ⟨by simp,FL,hl.Jt,h.own.iE,v0,Wj.nil,fun e=>by cases e⟩
 rw[if_neg c1]
 have hv:Z6 l.v:=Nr (by simpa using c1)
 by_cases c2:l.v∈n.own.l
 ·rw[if_pos c2]
  exact Tx.one h ⟨by simp,FL,hl.Jt,by unfold OK Jn;simp,hl.slot,Wj.nil,fun e=>by cases e⟩
 rw[if_neg c2]
 by_cases c3:QY n.data n.Y9 l.v≠0
 ·rw[if_pos c3];exact Tx.same h
 rw[if_neg c3]
 have hd:=Cb (by simpa using c3)
 refine⟨{ h with ZA:=?_,data:=?_ },(fun x hx=>by cases hx),by simp,by simp⟩
 ·intro p hp
  obtain rfl:=Option.some.inj hp
  exact⟨⟨.inl hv.2.1,h.own.Xt.ins hv⟩,hl.Jt,hv⟩
 ·show (n.data++Yk (Qv l.v)).length≤100000
  rw[List.length_append,dk];exact hd
theorem pD {C:List Cm} {i:Nat} {n:Nd} {x:Cm} (h:JT C i n) (hx:Yr n.known (n.log.length:Int)=some x):JT C i (Ux n x)∧(Tp n x).length+(Ux n x).waiting.length≤n.waiting.length:=by
 refine⟨{ h with log:=?_,queue:=?_ },?_⟩
 ·intro j hj
  have hj':j<(n.log++[x]).length:=hj
  show (Yr n.known (j:Int)).isSome=true
  rw[List.length_append,List.length_singleton]at hj'
  by_cases e:j<n.log.length
  ·exact h.log j e
  ·have:j=n.log.length:=by omega
   subst this
   rw[hx];rfl
 ·exact⟨h.queue.1.sublist List.filter_sublist,fun y hy=>h.queue.2 y (List.mem_filter.1 hy).1⟩
 ·show (Tp n x).length+(n.waiting.erase x).length≤n.waiting.length
  unfold Tp
  by_cases c:x∈n.waiting
  ·rw[if_pos c,List.length_erase_of_mem c]
   have:=List.length_pos_of_mem c
   simp;omega
  ·rw[if_neg c,List.erase_of_not_mem c];simp
theorem iG {C:List Cm} {i:Nat}:∀(k:Nat) (n:Nd),JT C i n→JT C i (Yu k n).1∧(Yu k n).2.length+(Yu k n).1.waiting.length≤n.waiting.length:=by
 intro k
 induction k with
 | zero=>intro n h;exact⟨h,by simp[Yu]⟩
 | succ k ih=>
  intro n h
  unfold Yu
  cases hx:Yr n.known (n.log.length:Int) with
  | none=>exact⟨h,by simp⟩
  | some x=>
   obtain⟨h1,h2⟩:=pD h hx
   obtain⟨h3,h4⟩:=ih _ h1
   refine⟨h3,?_⟩
   simp only[List.length_append]
   omega
theorem dm {C:List Cm} {i:Nat} {n:Nd} (h:JT C i n) (s:Int) (x:Cm) (hs:0≤s∧s<40):Tx C i n (Un n s x):=by
 have h1:JT C i (QG n s x):={ h with
  known:=h.known.ins hs x
  log:=fun j hj=>by
   show (Yr (ins n.known s x) (j:Int)).isSome=true
   rw[Jr]
   split
   ·rfl
   ·exact h.log j hj }
 obtain⟨h2,h3⟩:=iG ((QG n s x).known.length+1) (QG n s x) h1
 exact⟨h2,(fun l hl=>by cases hl),by simp[Un],h3⟩
theorem KN {β:Type}:∀{l:List (Int × β)} {k:Int} {v:β} {x:Int × β},x∈ins l k v→x.2=v∨x∈l:=by
 intro l
 induction l with
 | nil=>
  intro k v x hx
  left
  have:x=(k,v):=by simpa [ins] using hx
  rw[this]
 | cons y l ih=>
  intro k v x hx
  obtain⟨a,b⟩:=y
  unfold ins at hx
  split at hx
  ·rcases List.mem_cons.1 hx with rfl|hx
   ·exact .inl rfl
   ·exact .inr (by simp[hx])
  ·rcases List.mem_cons.1 hx with rfl|hx
   ·exact .inr (by simp)
   ·rcases ih hx with q|q
    ·exact .inl q
    ·exact .inr (by simp[q])
theorem aD {C:List Cm} {i:Nat} {n:Nd} {l:Y3} (hi:i<5) (h:JT C i n) (hl:JS C l):Tx C i n (Yv n l):=by
 unfold Yv
 cases hr:n.Zi with
 | none=>exact Tx.same h
 | some r=>
  have R:=h.Zi r hr
  have hs:∀r',(Nk n r l).Zi=some r'→Pc r':=by
   intro r' hr'
   obtain rfl:=Option.some.inj hr'
   refine⟨R.b,R.prom,R.vs,fun x hx=>?_⟩
   rcases KN hx with q|q
   ·rw[q]
    unfold Wb
    refine Vo.ins ?_ hl.Jt ()
    cases hk:Yr r.Xt l.v.slot with
    | none=>exact Vo.nil 5
    | some s=>exact R.VO _ (SI hk)
   ·exact R.VO x q
  have hv:JT C i (Nk n r l):={ h with Zi:=hs }
  simp only
  split
  ·split
   ·refine⟨{ h with Zi:=fun r' hr'=>?_ },(fun x hx=>by cases hx),by simp,by simp[ZaO]⟩
    obtain rfl:=Option.some.inj hr'
    refine⟨R.b,R.prom.ins hl.Jt l.vs,fun x hx=>?_,R.VO⟩
    rcases KN hx with q|q
    ·rw[q];exact hl.vs
    ·exact R.vs x q
   ·exact Tx.same h
  ·split
   ·exact Tx.same h
   ·split
    ·have:=dm hv l.v.slot l.v.cm hl.slot
     exact⟨this.nd,this.ls,this.few,this.ts⟩
    ·exact⟨hv,(fun x hx=>by cases hx),by simp,by simp[Nk]⟩
theorem yj {C:List Cm} {i:Nat} {n:Nd} {x:Cm} (h:JT C i n) (hx:x∈C):JT C i (add n x):=by
 unfold add
 split
 ·exact h
 ·rename_i q
  refine { h with queue:=⟨?_,fun y hy=>?_⟩ }
  ·show (n.queue++[x]).Nodup
   rw[List.nodup_append]
   refine⟨h.queue.1,by simp,fun a ha b hb e=>?_⟩
   have:b=x:=by simpa using hb
   exact q (.inl (by rw[←this,←e];exact ha))
  ·have hy:y∈n.queue++[x]:=hy
   rcases List.mem_append.1 hy with hy|hy
   ·exact h.queue.2 y hy
   ·have:y=x:=by simpa using hy
    rw[this];exact hx
theorem dn {C:List Cm} {i:Nat} {n:Nd} {l:Y3} (h:JT C i n) (hl:JS C l):JT C i (notes n l):=by
 unfold notes
 split
 ·exact { h with heard:=hl.b }
 ·exact h
theorem vA {C:List Cm} {i:Nat} {n:Nd} {l:Y3} (hi:i<5) (h:JT C i n) (hl:JS C l):Tx C i n (Wc n l):=by
 have FL:0≤(n.me:Int)∧(n.me:Int)<5:=by rw[h.me];omega
 have hn:=dn h hl
 have hw:(notes n l).waiting=n.waiting:=by unfold notes;split<;>rfl
 unfold Wc
 split
 ·next y _=>
  refine⟨hn,fun x hx=>?_,by simp,by simp[hw]⟩
  have:x=⟨6,n.me,l.Jt,Jn,TK l.v.slot Jn y,[]⟩:=by simpa using hx
  rw[this]
  exact⟨by simp,FL,hl.Jt,by unfold OK Jn;simp,hl.slot,Wj.nil,fun e=>by cases e⟩
 ·exact⟨hn,(fun x hx=>by cases hx),by simp,by simp[hw]⟩
theorem KO {C:List Cm} {i:Nat} {n:Nd} {l:Y3} (hi:i<5) (h:JT C i n) (hl:JS C l):Tx C i n (handle n l):=by
 have hw:(notes n l).waiting=n.waiting:=by unfold notes;split<;>rfl
 unfold handle
 split
 ·exact aC hi h hl
 split
 ·exact aD hi h hl
 split
 ·exact vz hi h hl
 split
 ·rename_i e
  refine⟨yj h (hl.cmd e),(fun x hx=>by cases hx),by simp,?_⟩
  have:(add n l.v.cm).waiting=n.waiting:=by unfold add;split<;>rfl
  simp[this]
 split
 ·exact vA hi h hl
 split
 ·exact dm h _ _ hl.slot
 ·exact⟨dn h hl,(fun x hx=>by cases hx),by simp,by simp[hw]⟩
theorem JT.inbox {C:List Cm} {i:Nat} {n:Nd} (h:JT C i n) (k:List Y3):JT C i { n with inbox:=k }:={ h with }
theorem dp {C:List Cm} {i:Nat} (hi:i<5):∀(k:List Y3) (n:Nd),JT C i n→(∀l∈k,JS C l) →
  JT C i (drain n k).n∧(∀l∈(drain n k).ls,JS C l)∧(∀l∈(drain n k).n.inbox,JS C l)∧(drain n k).ls.length+(drain n k).n.inbox.length≤k.length∧(drain n k).ts.length+(drain n k).n.waiting.length≤n.waiting.length:=by
 intro k
 induction k with
 | nil=>
  intro n h _
  unfold drain
  exact⟨h.inbox [],(fun x hx=>by cases hx),(fun x hx=>by cases hx),by simp,by simp⟩
 | cons l k ih=>
  intro n h hk
  unfold drain
  split
  ·exact⟨h.inbox _,(fun x hx=>by cases hx),hk,by simp,by simp⟩
  ·have o:=KO hi (h.inbox k) (hk l (by simp))
   obtain⟨h1,h2,h3,h4,h5⟩:=ih _ o.nd (fun x hx=>hk x (by simp[hx]))
   have ots:=o.ts
   have of:=o.few
   refine⟨h1,fun x hx=>?_,h3,?_,?_⟩
   ·rcases List.mem_append.1 hx with hx|hx
    ·exact o.ls x hx
    ·exact h2 x hx
   ·simp only[List.length_append,List.length_cons];omega
   ·simp only[List.length_append]
    have:({ n with inbox:=k }:Nd).waiting=n.waiting:=rfl
    rw[this]at ots
    omega
theorem SZ:∀{l C:List Cm},l.Nodup→(∀x∈l,x∈C)→l.length≤C.length:=by
 intro l
 induction l with
 | nil=>intro C _ _;simp
 | cons x l ih=>
  intro C hn hs
  rw[List.nodup_cons]at hn
  have hx:=hs x (by simp)
  have h1:=ih (C:=C.erase x) hn.2 (fun y hy=>by
   have Yw:y≠x:=fun e=>hn.1 (by rw[←e];exact hy)
   exact (List.mem_erase_of_ne Yw).2 (hs y (by simp[hy])))
  rw[List.length_erase_of_mem hx]at h1
  have:=List.length_pos_of_mem hx
  simp only[List.length_cons]
  omega
theorem JT.hand {C:List Cm} {i:Nat} {n:Nd} {l:Y3} (h:JT C i n) (hl:JS C l) (hC:C.length≤100000) (hw:n.waiting.length≤100000) {f t:Nat} (hf:f≤100000000000) (ht:t≤1000000):aq n l f t:=by
 have IU:=h.Fz
 have ju:=h.known.len (m:=40)
 have hq:n.queue.length≤C.length:=SZ h.queue.1 h.queue.2
 refine⟨hl.kind,by omega,by have:=h.own.Xt.len;omega,by have:=h.data;omega,by omega,by omega,by omega,by omega,by omega,fun r s hr=>?_⟩
 cases hk:Yr r.Xt s with
 | none=>simp
 | some x=>
  have:=(h.Zi r hr).VO _ (SI hk)
  have:x.length≤5:=this.len (m:=5)
  simp only[Option.getD_some]
  omega
theorem JT.dut {C:List Cm} {i:Nat} {n:Nd} (h:JT C i n) (hC:C.length≤100000) {f:Nat} (hf:f≤100000000000):po n f:=by
 have IU:=h.Fz
 have hq:n.queue.length≤C.length:=SZ h.queue.1 h.queue.2
 refine⟨by omega,by have:=h.own.Xt.len;omega,by have:=h.data;omega,fun r hr=>?_,by omega,by omega,h.Xk⟩
 have R:=h.Zi r hr
 have hp:r.prom.length≤5:=R.prom.len (m:=5)
 refine⟨fun x hx=>by have:=(R.vs x hx).len;omega,fun x hx v hv=>?_,by omega⟩
 have:=((R.vs x hx).1 v hv).1.2
 omega
theorem pE {C:List Cm} {i:Nat} (hi:i<5) (hC:C.length≤100000):∀(k:List Y3) (n:Nd),JT C i n→(∀l∈k,JS C l)→n.waiting.length≤100000→∀f t,f+k.length≤100000000000→t+n.waiting.length≤1000000→SW n k f t:=by
 intro k
 induction k with
 | nil=>intro n _ _ _ f t _ _;exact trivial
 | cons l k ih=>
  intro n h hk hw f t hf ht
  simp only[List.length_cons]at hf
  unfold SW
  by_cases hp:n.ZA.isSome=true
  ·exact .inl hp
  ·have o:=KO hi (h.inbox k) (hk l (by simp))
   have ots:=o.ts
   have of:=o.few
   have:({ n with inbox:=k }:Nd).waiting=n.waiting:=rfl
   rw[this]at ots
   exact .inr ⟨(h.inbox k).hand (hk l (by simp)) hC hw (by omega) (by omega),ih _ o.nd (fun x hx=>hk x (by simp[hx])) (by omega) _ _ (by omega) (by omega)⟩
theorem pF {C:List Cm} {i:Nat} {n:Nd} (hi:i<5) (hC:C.length≤100000) (h:JT C i n) (hk:∀l∈n.inbox,JS C l) (hw:n.waiting.length≤100000) {f t:Nat} (hf:f+n.inbox.length≤100000000000) (ht:t+n.waiting.length≤1000000):ar n f t:=by
 obtain⟨h1,h2,h3,h4,h5⟩:=dp hi n.inbox n h hk
 exact⟨by have:=h.data;omega,by omega,fun _=>pE hi hC n.inbox n h hk hw f t hf ht,fun _ _=>h1.dut hC (by omega)⟩
theorem vB {n:Nd} {r:Jj} {x:Cm} (R:Pc r):Pc (We n r x):=by
 unfold We
 split
 ·exact⟨R.b,R.prom,R.vs,R.VO⟩
 ·exact R
theorem iH {n:Nd}:∀(l:List Cm) (r:Jj),Pc r→Pc (Ju n r l):=by
 intro l
 induction l with
 | nil=>intro r R;exact R
 | cons x l ih=>intro r R;exact ih _ (vB R)
theorem vC {n:Nd} {r:Jj} (R:Pc r):Pc (Uo n r):=by
 unfold Uo
 refine iH _ _ ?_
 split
 ·exact R
 ·exact⟨R.b,R.prom,R.vs,R.VO⟩
theorem FA:OK Jn:=by unfold OK Jn;simp
theorem Zbh {C:List Cm} {i:Nat} {n:Nd} {r:Jj} (hi:i<5) (h:JT C i n) (R:Pc r):JT C i (Qx n r).n∧(∀l∈(Qx n r).ls,JS C l)∧(Qx n r).n.inbox=n.inbox∧(Qx n r).n.waiting=n.waiting:=by
 have FL:0≤(n.me:Int)∧(n.me:Int)<5:=by rw[h.me];omega
 have v0:0≤VX.slot∧VX.slot<40:=by decide
 unfold Qx
 split
 ·split
  ·exact⟨h,(fun x hx=>by cases hx),rfl,rfl⟩
  ·rename_i hd
   have hd:=OL (by simpa using hd)
   refine⟨{ h with ZA:=?_,data:=?_ },(fun x hx=>by cases hx),rfl,rfl⟩
   ·intro p hp
    obtain rfl:=Option.some.inj hp
    by_cases c:Yq n.own.p n.own.l r.b=0
    ·simp only[c,if_true]
     exact⟨⟨.inl (SY c),h.own.Xt⟩,h.own.Xt⟩
    ·simp only[c,if_false]
     exact⟨IV.zero,Wj.nil⟩
   ·show (n.data++Yk (XT r.b)).length≤100000
    rw[List.length_append,M0];exact hd
 ·split
  ·refine⟨h,fun l hl=>?_,rfl,rfl⟩
   unfold Nl at hl
   simp only[List.mem_flatMap,List.mem_range]at hl
   obtain⟨m,hm,hl⟩:=hl
   split at hl
   ·have:l=⟨0,n.me,m,r.b,VX,[]⟩:=by simpa using hl
    rw[this]
    exact⟨by simp,FL,by simp only;omega,R.b,v0,Wj.nil,fun e=>by cases e⟩
   ·cases hl
  ·refine⟨{ h with Zi:=fun r' hr'=>?_ },fun l hl=>?_,rfl,rfl⟩
   ·obtain rfl:=Option.some.inj hr'
    exact vC R
   ·unfold OB at hl
    simp only[List.mem_flatMap,List.mem_range]at hl
    obtain⟨s,hs,hl⟩:=hl
    unfold Wt at hl
    split at hl
    ·split at hl
     ·simp only[List.mem_flatMap,List.mem_range]at hl
      obtain⟨m,hm,hl⟩:=hl
      unfold RX at hl
      split at hl
      ·next x _ _ _=>
       have:l=⟨2,n.me,m,Jn,TK s (Uo n r).b x,[]⟩:=by simpa using hl
       rw[this]
       exact⟨by simp,FL,by simp only;omega,FA,by simp only[TK];omega,Wj.nil,fun e=>by cases e⟩
      ·cases hl
     ·cases hl
    ·cases hl
theorem dq {C:List Cm} {i:Nat} {n:Nd} (h:JT C i n):JT C i (still n)∧(still n).inbox=n.inbox∧(still n).waiting=n.waiting:=by
 unfold still
 split
 ·split
  ·exact⟨{ h with Zi:=fun r hr=>by cases hr },rfl,rfl⟩
  ·exact⟨h,rfl,rfl⟩
 ·exact⟨h,rfl,rfl⟩
theorem vD {C:List Cm} {i:Nat} {n:Nd} (hi:i<5) (h:JT C i n):JT C i (Yx n).n∧(∀l∈(Yx n).ls,JS C l)∧(Yx n).n.inbox=n.inbox∧(Yx n).n.waiting=n.waiting:=by
 have FL:0≤(n.me:Int)∧(n.me:Int)<5:=by rw[h.me];omega
 unfold Yx
 split
 ·next r hr=>exact Zbh hi h (h.Zi r hr)
 ·split
  ·rename_i q
   refine⟨h,fun l hl=>?_,rfl,rfl⟩
   unfold VM at hl
   simp only[List.mem_map]at hl
   obtain⟨x,hx,rfl⟩:=hl
   have hb:ZM n.own.p:=by
    rcases h.own.bal with e|e
    ·exact e
    ·have:=q.1;omega
   exact⟨by simp,FL,by simp only;have:=hb.2;omega,FA,by simp[TK],Wj.nil,fun _=>h.queue.2 x hx⟩
  ·exact⟨h,(fun x hx=>by cases hx),rfl,rfl⟩
theorem vE {C:List Cm} {i:Nat} {n:Nd} (h:JT C i n):OK (UA n):=by
 unfold UA;split
 ·exact h.heard
 ·exact h.own.iE
theorem pG {C:List Cm} {i:Nat} {n:Nd} (hi:i<5) (hC:C.length≤100000) (h:JT C i n):JT C i (Wf n).n∧(∀l∈(Wf n).ls,JS C l)∧(Wf n).n.inbox=n.inbox∧(Wf n).n.waiting=n.waiting∧(Wf n).ls.length≤100201∧(Wf n).ts=[]:=by
 obtain⟨s1,s2,s3⟩:=dq h
 obtain⟨d1,d2,d3,d4⟩:=vD hi s1
 have hq:(still n).queue.length≤C.length:=SZ s1.queue.1 s1.queue.2
 have hls:=D2 (still n)
 unfold Wf
 split
 ·exact⟨d1,d2,by rw[d3,s2],by rw[d4,s3],by omega,(Pb _).2.2.2.2.2⟩
 ·have tt:0≤((Yx (still n)).n.Xk+1)%5∧((Yx (still n)).n.Xk+1)%5<5:=by omega
  have t1:JT C i (Qh (Yx (still n)).n):={ d1 with Xk:=tt }
  have FL:0≤((Qh (Yx (still n)).n).me:Int)∧((Qh (Yx (still n)).n).me:Int)<5:=by rw[t1.me];omega
  refine⟨t1,fun l hl=>?_,by show (Yx (still n)).n.inbox=_;rw[d3,s2],by show (Yx (still n)).n.waiting=_;rw[d4,s3],?_,rfl⟩
  ·rcases List.mem_append.1 hl with hl|hl
   ·exact d2 l hl
   ·unfold Vi at hl
    split at hl
    ·rename_i q
     have:l=⟨5,(Qh (Yx (still n)).n).me,(Qh (Yx (still n)).n).Xk,UA (Qh (Yx (still n)).n),TK (Qh (Yx (still n)).n).log.length Jn Ks,[]⟩:=by simpa using hl
     rw[this]
     exact⟨by simp,FL,t1.Xk,vE t1,by simp only[TK];have:=q.2;omega,Wj.nil,fun e=>by cases e⟩
    ·cases hl
  ·have:(Vi (Qh (Yx (still n)).n)).length≤1:=by unfold Vi;split<;>simp
   simp only[List.length_append]
   omega
theorem Cc {C:List Cm} {i:Nat} {n:Nd} (h:JT C i n):JT C i (synced n):=by
 refine { h with ZA:=(fun p hp=>by cases hp),data:=?_ }
 show (if YO n.data n.Y9 then n.data else []).length≤100000
 split
 ·exact h.data
 ·simp
theorem Cd {C:List Cm} {i:Nat} {n:Nd} {p:DM} (hi:i<5) (h:JT C i n) (P:Zf9 p):JT C i (finish n p).n∧(∀l∈(finish n p).ls,JS C l)∧(finish n p).n.inbox=n.inbox∧(finish n p).n.waiting=n.waiting∧(finish n p).ls.length≤1∧(finish n p).ts=[]:=by
 have FL:0≤(n.me:Int)∧(n.me:Int)<5:=by rw[h.me];omega
 have v0:0≤VX.slot∧VX.slot<40:=by decide
 cases p with
 | MD a to b vs=>
  obtain⟨p1,p2,p3,p4⟩:=P
  refine⟨{ h with own:=p1 },fun l hl=>?_,rfl,rfl,by simp[finish],rfl⟩
  have:l=⟨1,n.me,to,b,VX,vs⟩:=by simpa [finish] using hl
  rw[this]
  exact⟨by simp,FL,p2,p3,v0,p4,fun e=>by cases e⟩
 | Mi a to v=>
  obtain⟨p1,p2,p3⟩:=P
  refine⟨{ h with own:=p1 },fun l hl=>?_,rfl,rfl,by simp[finish],rfl⟩
  have:l=⟨3,n.me,to,Jn,v,[]⟩:=by simpa [finish] using hl
  rw[this]
  exact⟨by simp,FL,p2,FA,by have:=p3.1;simp only;omega,Wj.nil,fun e=>by cases e⟩
 | own a vs cur=>
  obtain⟨p1,p2⟩:=P
  refine⟨{ h with own:=p1,Zi:=fun r hr=>?_ },(fun x hx=>by cases hx),rfl,rfl,by simp[finish],rfl⟩
  have hr:(if cur=true then n.Zi.map (fun r=>{ r with prom:=ins r.prom n.me vs }) else n.Zi)=some r:=hr
  split at hr
  ·rw[Option.map_eq_some_iff]at hr
   obtain⟨r0,h0,rfl⟩:=hr
   have R:=h.Zi r0 h0
   refine⟨R.b,R.prom.ins FL vs,fun x hx=>?_,R.VO⟩
   rcases KN hx with q|q
   ·rw[q];exact p2
   ·exact R.vs x q
  ·exact h.Zi r hr
theorem Zbi {C:List Cm} {i:Nat} {n:Nd} (hi:i<5) (hC:C.length≤100000) (h:JT C i n) (hk:∀l∈n.inbox,JS C l) :
  JT C i (step n).n∧(∀l∈(step n).ls,JS C l)∧(∀l∈(step n).n.inbox,JS C l)∧(step n).ls.length+(step n).n.inbox.length≤n.inbox.length+100201∧(step n).ts.length+(step n).n.waiting.length≤n.waiting.length:=by
 unfold step
 split
 ·cases hp:n.ZA with
  | some p=>
   obtain⟨f1,f2,f3,f4,f5,f6⟩:=Cd hi (Cc h) (h.ZA p hp)
   refine⟨f1,f2,by simp only;rw[f3];exact hk,?_,?_⟩
   ·simp only;rw[f3];show _+n.inbox.length≤_;omega
   ·simp only;rw[f4,f6];show 0+n.waiting.length≤_;omega
  | none=>
   obtain⟨d1,d2,d3,d4,d5⟩:=dp hi n.inbox n h hk
   simp only
   split
   ·exact⟨d1,d2,d3,by omega,d5⟩
   ·obtain⟨e1,e2,e3,e4,e5,e6⟩:=pG hi hC d1
    refine⟨e1,fun l hl=>?_,by simp only;rw[e3];exact d3,?_,?_⟩
    ·rcases List.mem_append.1 hl with hl|hl
     ·exact d2 l hl
     ·exact e2 l hl
    ·simp only[List.length_append];rw[e3];omega
    ·simp only;rw[e4,e6,List.append_nil];exact d5
 ·exact⟨h,(fun x hx=>by cases hx),hk,by simp,by simp⟩
theorem Zbj {a a':Qw} {b:List Nat} (h:Xy a b=some a') (ha:IV a):IV a':=by
 unfold Xy at h
 split at h
 ·split at h
  ·rename_i q
   cases h
   exact⟨.inl (SY q),ha.Xt⟩
  ·cases h
 ·split at h
  ·split at h
   ·cases h
   ·split at h
    ·rename_i q
     cases h
     have hv:=Nr q
     exact⟨.inl hv.2.1,ha.Xt.ins hv⟩
    ·cases h
  ·cases h
theorem vF (l:List Nat):∀(f:Nat) (a:Qw) (k:Nat),IV a→IV (Ku l f a k).1:=by
 intro f
 induction f with
 | zero=>intro a k h;exact h
 | succ f ih=>
  intro a k h
  unfold Ku
  cases hs:Yl l a k with
  | none=>exact h
  | some x=>
   refine ih _ _ ?_
   unfold Yl at hs
   split at hs
   ·rw[Option.map_eq_some_iff]at hs
    obtain⟨y,hy,rfl⟩:=hs
    exact Zbj hy h
   ·cases hs
theorem pH (l:List Nat):IV (Wg l).1:=vF l _ _ _ IV.zero
theorem M3 {C:List Cm} {i:Nat} {up:Bool} {data:List Nat} {Y9:Int} {own:Qw} (hd:data.length≤100000) (ho:IV own):JT C i (blank i up data Y9 own):=
 ⟨rfl,by unfold blank;simp,ho,FA,(fun p hp=>by cases hp),(fun r hr=>by cases hr),Vo.nil 40,(fun j hj=>by cases hj),⟨by simp[blank],(fun x hx=>by cases hx)⟩,hd⟩
theorem iI {C:List Cm} {i:Nat} {n:Nd} (h:JT C i n) (Zc:Int):JT C i (crashed i n Zc)∧((crashed i n Zc).inbox=[]∧(crashed i n Zc).waiting=[]∨crashed i n Zc=n):=by
 unfold crashed
 split
 ·split
  ·refine⟨M3 ?_ IV.zero,.inl ⟨rfl,rfl⟩⟩
   have:=h.data
   rw[List.length_take];omega
  ·exact⟨M3 (by simp) IV.zero,.inl ⟨rfl,rfl⟩⟩
 ·exact⟨h,.inr rfl⟩
theorem H6 {C:List Cm} {i:Nat} {n:Nd} (h:JT C i n):JT C i (started i n)∧((started i n).inbox=[]∧(started i n).waiting=[]∨started i n=n):=by
 unfold started
 split
 ·exact⟨h,.inr rfl⟩
 ·refine⟨M3 ?_ ?_,.inl ⟨rfl,rfl⟩⟩
  ·unfold Kv
   have:=h.data
   split
   ·rw[List.length_take];omega
   ·simp
  ·split
   ·exact pH _
   ·exact IV.zero
theorem pI {C:List Cm} {i:Nat} {n:Nd} (h:JT C i n):JT C i (lead n)∧(lead n).inbox=n.inbox∧(lead n).waiting=n.waiting:=by
 unfold lead
 split
 ·exact⟨h,rfl,rfl⟩
 ·rename_i q
  refine⟨{ h with ZA:=?_,Zi:=fun r hr=>?_ },rfl,rfl⟩
  ·intro p hp
   have hp:Xf n.ZA=some p:=hp
   cases hn:n.ZA with
   | none=>rw[hn]at hp;cases hp
   | some p0=>
    have P:=h.ZA p0 hn
    rw[hn]at hp
    cases p0 with
    | MD a to b vs=>cases hp;exact P
    | Mi a to v=>cases hp;exact P
    | own a vs cur=>cases hp;exact P
  ·obtain rfl:=Option.some.inj hr
   refine⟨⟨?_,?_⟩,Vo.nil 5,(fun x hx=>by cases hx),(fun x hx=>by cases hx)⟩
   ·have h1:=h.own.iE.1
    show 0≤(Xz n).r
    unfold Xz
    simp only
    split<;>omega
   ·have:¬65536<(Xz n).r:=fun e=>q (.inr e)
    show (Xz n).r≤65536
    omega
def Pd (f:Nat→Nat):Nat:=f 0+f 1+f 2+f 3+f 4
theorem pJ (f:Nat→Nat) (i a:Nat) (hi:i<5):Pd (fun j=>if j=i then a else f j)+f i=Pd f+a:=by
 unfold Pd
 match i,hi with
 | 0,_=>simp;omega
 | 1,_=>simp;omega
 | 2,_=>simp;omega
 | 3,_=>simp;omega
 | 4,_=>simp;omega
theorem dx (f:Nat→Nat) (i:Nat) (hi:i<5):f i≤Pd f:=by
 unfold Pd
 match i,hi with
 | 0,_=>omega
 | 1,_=>omega
 | 2,_=>omega
 | 3,_=>omega
 | 4,_=>omega
structure WI (C:List Cm) (k:Nat) (w:Wd):Prop where
 nd:∀i,i<5→JT C i (w.nodes i)
 Pq:∀i,i<5→∀l∈(w.nodes i).inbox,JS C l
 M7:∀l∈w.Zm,JS C l
 room:w.Zm.length+Pd (fun i=>(w.nodes i).inbox.length)≤k*100300
 wait:w.told.length+Pd (fun i=>(w.nodes i).waiting.length)≤k
 bad:∀i,0≤w.bad i∧w.bad i≤k
theorem OM (w:Wd) (i:Nat) (n:Nd) (g:Nd→Nat) (hi:i<5):Pd (fun j=>g (if j=i then n else w.nodes j))+g (w.nodes i)=Pd (fun j=>g (w.nodes j))+g n:=by
 have:=pJ (fun j=>g (w.nodes j)) i (g n) hi
 have e:(fun j=>g (if j=i then n else w.nodes j))=(fun j=>if j=i then g n else g (w.nodes j)):=by
  funext j;split<;>rfl
 rw[e];exact this
theorem WI.out {C:List Cm} {k:Nat} {w:Wd} (h:WI C k w) {i:Nat} (hi:i<5) {o:Out} (h1:JT C i o.n) (h2:∀l∈o.ls,JS C l) (h3:∀l∈o.n.inbox,JS C l) (h4:o.ls.length+o.n.inbox.length≤(w.nodes i).inbox.length+100300) (h5:o.ts.length+o.n.waiting.length≤(w.nodes i).waiting.length+1):WI C (k+1) (w.out i o):=by
 unfold Wd.out
 refine⟨fun j hj=>?_,fun j hj l hl=>?_,fun l hl=>?_,?_,?_,fun j=>by have:=h.bad j;simp only;omega⟩
 ·by_cases e:j=i
  ·subst e;simpa using h1
  ·simp only[if_neg e];exact h.nd j hj
 ·by_cases e:j=i
  ·subst e;simp only[if_true]at hl;exact h3 l hl
  ·simp only[if_neg e]at hl;exact h.Pq j hj l hl
 ·rcases List.mem_append.1 hl with hl|hl
  ·exact h.M7 l hl
  ·exact h2 l hl
 ·have:=OM w i o.n (fun n=>n.inbox.length) hi
  have hr:=h.room
  simp only[List.length_append]at this ⊢
  omega
 ·have:=OM w i o.n (fun n=>n.waiting.length) hi
  have hr:=h.wait
  simp only[List.length_append]at this ⊢
  omega
theorem WV (w:Wd) (i:Nat) (n:Nd):w.set i n=w.out i ⟨n,[],[]⟩:=by
 unfold Wd.set Wd.out
 simp
theorem WI.more {C:List Cm} {k:Nat} {w:Wd} (h:WI C k w):WI C (k+1) w:=
 ⟨h.nd,h.Pq,h.M7,Nat.le_trans h.room (Nat.mul_le_mul_right _ (Nat.le_succ k)),Nat.le_trans h.wait (Nat.le_succ k),fun i=>⟨(h.bad i).1,by have:=(h.bad i).2;omega⟩⟩
theorem WI.ok {C:List Cm} {k:Nat} {w:Wd} (h:WI C k w) (hC:C.length≤100000) (hk:k≤100000):WOk w:=by
 have hr:=h.room
 have hw:=h.wait
 have RC:∀i,i<5→(w.nodes i).inbox.length+w.Zm.length≤10030000000:=fun i hi=>by
  have:(w.nodes i).inbox.length≤_:=dx (fun i=>(w.nodes i).inbox.length) i hi
  omega
 have Ld:∀i,i<5→(w.nodes i).waiting.length+w.told.length≤100000:=fun i hi=>by
  have:(w.nodes i).waiting.length≤_:=dx (fun i=>(w.nodes i).waiting.length) i hi
  omega
 refine⟨fun i hi=>(h.nd i hi).me,fun i hi=>pF hi hC (h.nd i hi) (h.Pq i hi) (by have:=Ld i hi;omega) (by have:=RC i hi;omega) (by have:=Ld i hi;omega),fun i hi=>?_,fun i hi=>?_,fun i hi=>?_,fun i hi=>?_,fun i hi=>?_,?_,fun i hi=>?_,fun i hi=>?_,fun i hi r hr=>?_,fun l hl=>(h.M7 l hl).to,?_⟩
 ·have:=SZ (h.nd i hi).queue.1 (h.nd i hi).queue.2;omega
 ·have:=(h.nd i hi).Fz;omega
 ·have:=Ld i hi;omega
 ·have:=RC i hi;omega
 ·have:=(h.nd i hi).data;omega
 ·have:=Ld 0 (by omega);omega
 ·have:=h.bad i;omega
 ·have h1:=(h.nd i hi).own.iE
  have h2:=(h.nd i hi).heard
  unfold OK at h1 h2
  omega
 ·have h1:=((h.nd i hi).Zi r hr).b
  unfold OK at h1
  omega
 ·have:=RC 0 (by omega);omega
set_option maxHeartbeats 8000000 in
theorem Zbk (T:World) (h:Hp) (o:Ow) (wb:Nat) (Z8:Nat→Nat) (YH:WA) (w:Wd) (a:Ac) (dv:Value) (d:Uq o h) (A:Jf o h wb Z8 YH w) (ok:WOk w) (hk:1≤a.kind∧a.kind≤9) (hi:a.node<5) (iv:Tv o h dv a.data) (qE:a.data.length≤140737488355328) (tb:CI o h) :
  Zd Tryz.prog T 34 #[Zo wb,.agg (VT a.kind a.node a.at' a.Zc dv).toArray] h fun v' h'=>∃o' Xu Zo2,Kp Vn o h o' h'∧Jf o' h' wb Zo2 Xu (act w a):=by
 obtain⟨pd,cd,hdv,QB⟩:=iv.1.fits
 have DF:Ta dv:=by rw[hdv];exact QB
 subst hdv
 refine Zd.Zj (args:=[_,_]) Tryz.func34 rfl rfl rfl rfl ?_
 unfold Zo VT
 obtain⟨h1,YD⟩:=Zy (h.push (.cells (VT a.kind a.node a.at' a.Zc (.slice pd a.data.length cd)).toArray 36):Hp)
 have k1:Kp Qz o h o h1:=by rw[YD];exact ZX d _
 have x3:ZN o h1 h.size (.cells (VT a.kind a.node a.at' a.Zc (.slice pd a.data.length cd)).toArray 36):=⟨d _ (Nat.le_refl _),by rw[YD];exact Zb⟩
 have e0:=YD.symm
 unfold VT at e0
 have A1:=A.still k1
 have tb1:=tb.Zc k1
 have R1:=YZ A1.wd.ZF.2
 have Rn:=R1.nodes
 obtain⟨b,off,c,hn,hc5,hb,OJ⟩:=Wi A1.wd
 rw[hn]at Rn
 have Fu:=Za A1.wd.ZF.2
 have q0:hc h1 ⟨h.size,0,none⟩=some (.int .i64 a.kind):=Zh x3.2
 have q1:hc h1 ⟨h.size,1,none⟩=some (.int .i64 a.node):=Zh x3.2
 have q2:hc h1 ⟨h.size,2,none⟩=some (.int .i64 a.at'):=Zh x3.2
 have q3:hc h1 ⟨h.size,3,none⟩=some (.int .i64 a.Zc):=Zh x3.2
 have q4:hc h1 ⟨h.size,4,none⟩=some (.slice pd a.data.length cd):=Zh x3.2
 have l3:=Za x3.2
 have ri:=OJ a.node hi
 unfold Zo at ri
 have cF:(a.node:Int)<5:=by omega
 obtain⟨na,N1⟩:=A1.nd a.node hi
 have Wo:=Za N1.ZF.2
 have uN:=iv.Zc k1
 have KH:a.kind=1∨a.kind=2∨a.kind=3∨(a.kind=4∨a.kind=5∨a.kind=6)∨a.kind=7∨a.kind=8∨a.kind=9:=by omega
 rcases KH with e|e|e|e|e|e|e
 ·-- a command
  have ea:act w a=Tt w a.node a.data:=by unfold act;rw[if_pos e]
  rw[ea]
  rw[e]at q0
  have cs:=iB T h1 o wb Z8 YH w a.node a.data (.slice pd a.data.length cd) k1.ZW A1 hi (ok.me _ hi) uN DF qE tb1 (by have:=ok.queue _ hi;omega) (by have:=ok.log _ hi;omega) (by have:=ok.waiting _ hi;omega) (by have:=ok.told;omega) (ok.bad _ hi)
  unfold Zo at cs
  simp -implicitDefEqProofs only[go_sem,↓reduceIte,e0,q0]
  refine VS.z (h1.size) [11] (.p 0 (.p 1 (.p 2 (.p 3 (.q 4 (.p 5 (.q 6 (.p 7 (.q 8 (.p 9 (.q 10 (.w 11 .nil)))))))))))) mixed (by kernel_rfl) ?_
  simp -implicitDefEqProofs only[go_sem,↓reduceIte,Rn,q1,q4,Fu,l3,hb,cF,ri]
  refine cs.use ?_
  rintro v' g ⟨o',Xu,kk,A'⟩
  simp -implicitDefEqProofs only[go_sem,↓reduceIte]
  exact⟨o',Xu,Z8,(Yc k1).trans kk,A'⟩
 ·-- to lead
  have ea:act w a=w.set a.node (lead (w.nodes a.node)):=by unfold act;rw[if_neg (by omega),if_pos e]
  rw[ea]
  rw[e]at q0
  have cs:=vw T h1 o wb a.node (Z8 a.node) na (w.nodes a.node) k1.ZW N1 (ok.ZoZ _ hi) (ok.rgn _ hi)
  unfold Zo at cs
  simp -implicitDefEqProofs only[go_sem,↓reduceIte,e0,q0]
  refine VS.z (h1.size) [9] (.p 0 (.p 1 (.p 2 (.p 3 (.q 4 (.p 5 (.q 6 (.p 7 (.q 8 (.w 9 .nil)))))))))) mixed (by kernel_rfl) ?_
  simp -implicitDefEqProofs only[go_sem,↓reduceIte,Rn,q1,Fu,l3,hb,cF,ri]
  refine cs.use ?_
  rintro v' g ⟨o',a',kk,N'⟩
  simp -implicitDefEqProofs only[go_sem,↓reduceIte]
  exact⟨o',YH,Z8,(Yc k1).trans (Yc kk),A1.Xk (kk.mono fun t q=>.inr (.inr (.inr q))) N' (A1.wd.Zc kk fun t q e=>by rw[q]at e;cases e)⟩
 ·-- a step
  have ea:act w a=w.out a.node (step (w.nodes a.node)):=by unfold act;rw[if_neg (by omega),if_neg (by omega),if_pos e]
  rw[ea]
  rw[e]at q0
  have cs:=pA T h1 o wb a.node (Z8 a.node) Z8 na (w.nodes a.node) YH w.Zm w.bad w.told k1.ZW N1 A1.wd tb1 (ok.step _ hi)
  unfold Zo at cs
  simp -implicitDefEqProofs only[go_sem,↓reduceIte,e0,q0]
  refine VS.z (h1.size) [9] (.p 0 (.p 1 (.p 2 (.p 3 (.q 4 (.p 5 (.q 6 (.p 7 (.q 8 (.w 9 .nil)))))))))) mixed (by kernel_rfl) ?_
  simp -implicitDefEqProofs only[go_sem,↓reduceIte,Rn,q1,Fu,l3,hb,cF,ri]
  refine cs.use ?_
  rintro v' g ⟨o',a',Xu,kk,N',W'⟩
  simp -implicitDefEqProofs only[go_sem,↓reduceIte]
  exact⟨o',Xu,Z8,(Yc k1).trans (Yc kk),A1.Xk kk N' W'⟩
 ·-- a letter
  have ea:act w a=pick w a.at' (decide (a.kind≠5)) (decide (a.kind=6)):=by unfold act;rw[if_neg (by omega),if_neg (by omega),if_neg (by omega),if_pos e]
  rw[ea]
  have cs:=pB T h1 o wb Z8 YH w a.at' (decide (a.kind≠5)) (decide (a.kind=6)) k1.ZW A1 ok.to (by have:=ok.room;omega) (fun j hj=>by have:=ok.inbox j hj;omega)
  unfold Zo at cs
  rcases e with e|e|e
  all_goals
   rw[e]at q0 cs ⊢
   rw[e]at e0
   simp -implicitDefEqProofs only[go_sem,↓reduceIte,e0,q0,q2]
   refine cs.use ?_
   rintro v' g ⟨o',Xu,kk,A'⟩
   simp -implicitDefEqProofs only[go_sem,↓reduceIte]
   exact⟨o',Xu,Z8,(Yc k1).trans kk,A'⟩
 ·-- all vy
  have ea:act w a=w.Zm.foldl Ue { w with Zm:=[] }:=by unfold act;rw[if_neg (by omega),if_neg (by omega),if_neg (by omega),if_neg (by omega),if_pos e]
  rw[ea]
  rw[e]at q0
  have Yp:=ok.room
  obtain⟨pf,cf,hf,hfc⟩:=VR A1.wd.Zm
  have Rf:=R1.Zm
  rw[hf]at Rf
  obtain⟨g2,w2,W2,k2⟩:=A1.wd.H4 (fl':=[]) (v:=.slice none 0 0) (Kp.refl k1.ZW (fun t=>t=.Zm)) ⟨[],rfl,YB.nil _ _ _ _ _,fun x hx=>by cases hx⟩ (R1.Ft (.slice none 0 0) rfl)
  have A2:Jf o g2 wb Z8 { YH with Zm:=.slice none 0 0 } { w with Zm:=[] }:=A1.vm k2 (by rintro t rfl;rfl) W2
  have L2:QO o .Zm g2 (.slice pf w.Zm.length cf) w.Zm:=by rw[←hf];exact A1.wd.Zm.Zc k2 (by intro e;cases e)
  have K2:Kp Vn o h o g2:=(Yc k1).trans (Yc k2)
  simp -implicitDefEqProofs only[go_sem,↓reduceIte,e0,q0,Rf,Fu,w2]
  refine VS.ZV (fun F g=>F 0=.pointer (some ⟨wb,0,none⟩)∧F 118=.slice pf w.Zm.length cf∧F 119=.int .i64 w.Zm.length∧∃(j:Nat) (o':Ow),j≤w.Zm.length∧F 120=.int .i64 j∧Kp Vn o h o' g∧Jf o' g wb Z8 { YH with Zm:=.slice none 0 0 } ((w.Zm.take j).foldl Ue { w with Zm:=[] })∧QO o' .Zm g (.slice pf w.Zm.length cf) w.Zm)
   (fun F _=>w.Zm.length-(vi (F 120)).toNat) rfl ⟨rfl,rfl,rfl,0,o,Nat.zero_le _,rfl,K2,A2,L2⟩ ?_
  rintro F3 g3 ⟨f0,f118,f119,j,o3,hj,f120,K3,A3,L3⟩
  by_cases ZD:j<w.Zm.length
  ·have ZL:(j:Int)<w.Zm.length:=by omega
   obtain⟨v,b3,ZAJ,c3,hv,hvc,hb3,Zbl,iv3⟩:=dj L3 j ZD
   simp only[Value.slice.injEq]at hv
   obtain⟨rfl,_,rfl⟩:=hv
   obtain⟨l,hl⟩:=Zy (w.Zm[j])
   rw[←hl]at Zbl iv3
   have iq:l∈w.Zm:=by rw[hl];exact List.getElem_mem ZD
   obtain⟨pw,cw,rfl⟩:=iv3.isSlice
   obtain⟨g4,OI⟩:=Zy (g3.push (.cells (YY l (.slice pw l.vs.length cw)).toArray 148):Hp)
   have k4:Kp Qz o3 g3 o3 g4:=by rw[OI];exact ZX K3.ZW _
   have x6:ZN o3 g4 g3.size (.cells (YY l (.slice pw l.vs.length cw)).toArray 148):=⟨K3.ZW _ (Nat.le_refl _),by rw[OI];exact Zb⟩
   have e4:=OI.symm
   have r6:rd g4 ⟨g3.size,0,none⟩ 14=some (YY l (.slice pw l.vs.length cw)):=Zp x6.2 rfl
   obtain⟨wj,hwj⟩:=Zy ((w.Zm.take j).foldl Ue { w with Zm:=[] })
   rw[←hwj]at A3
   have YA:(w.Zm.take (j+1)).foldl Ue { w with Zm:=[] } = Ue wj l:=by
    rw[Yg _ j ZD,←hl,List.foldl_append,←hwj];rfl
   have cc:=Fy T g4 o3 wb Z8 _ wj l (.slice pw l.vs.length cw) k4.ZW (A3.still k4) (iv3.Zc k4) (ok.to l iq) (fun i hi=>by
    have h1:=D9 i (w.Zm.take j) { w with Zm:=[] }
    rw[←hwj,List.length_take]at h1
    have h2:=ok.inbox i hi
    have h3:=ok.room
    have h4:(({ w with Zm:=[] }:Wd).nodes i).inbox.length=(w.nodes i).inbox.length:=rfl
    omega)
   unfold Zo YY at cc
   unfold YY at e4 r6 Zbl
   simp -implicitDefEqProofs only[go_sem,↓reduceIte,f0,f118,f119,f120,ZL,Zbl,e4,r6]
   refine cc.use ?_
   rintro v' g5 ⟨o5,k5,A5⟩
   simp -implicitDefEqProofs only[go_sem,↓reduceIte,f120]
   unfold Y4
   refine⟨⟨f0,f118,f119,j+1,o5,ZD,rfl,(K3.trans (Yc k4)).trans (Yc k5),by rw[YA];exact A5,(L3.Zc k4 (fun q=>q.elim)).Zc k5 (by rintro⟨_,e⟩;cases e)⟩,?_⟩
   simp only[vi,Zk,↓reduceIte,f120];omega
  ·have YJ:¬(j:Int)<w.Zm.length:=by omega
   obtain rfl:j=w.Zm.length:=by omega
   rw[List.take_of_length_le (Nat.le_refl _)]at A3
   simp -implicitDefEqProofs only[go_sem,↓reduceIte,f119,f120,YJ]
   exact⟨o3,_,Z8,K3,A3⟩
 ·-- a Zeb
  have ea:act w a=w.set a.node (crashed a.node (w.nodes a.node) a.Zc):=by unfold act;rw[if_neg (by omega),if_neg (by omega),if_neg (by omega),if_neg (by omega),if_neg (by omega),if_pos e]
  rw[ea]
  rw[e]at q0
  obtain⟨n,I8⟩:=Zy (w.nodes a.node)
  have Zbm:=ok.data _ hi
  rw[←I8]at N1 Zbm
  have P1:=Zx N1.ZF.2 N1.pt.store.len
  have P1u:=P1.up
  simp -implicitDefEqProofs only[go_sem,↓reduceIte,e0,q0]
  refine VS.mono (N:=fun F' g'=>Zg h1.size h1 g'∧F' 0=.pointer (some ⟨wb,0,none⟩)∧F' 3=.pointer (some ⟨h.size,0,none⟩)∧F' 7=.pointer (some ⟨Z8 a.node,0,none⟩)) ?_ ?_ (fun _ _ _ h=>h) (fun _ _ h=>h)
  ·refine VS.z (h1.size) [] (.p 0 (.p 1 (.p 2 (.q 3 (.p 4 (.q 5 (.p 6 (.q 7 (.p 8 .nil))))))))) mixed (by kernel_rfl) ?_
   simp -implicitDefEqProofs only[go_sem,↓reduceIte,Rn,q1,Fu,l3,hb,cF,ri]
   try exact Zg.refl _ _
  rintro F2 g2 ⟨b2,f0,f3,f7⟩
  have Ra:=ZC k1.ZW b2
  have A2:=A1.still Ra
  have N2:=N1.still Ra
  have K2:=k1.trans Ra
  have y3:=x3.Zc Ra
  have P2:=Zx N2.ZF.2 N2.pt.store.len
  have di:=P2.up
  have JR:=Za N2.ZF.2
  clear P1 P1u
  cases hu:n.up with
  | false=>
   rw[hu]at di
   have e1:crashed a.node (w.nodes a.node) a.Zc=w.nodes a.node:=by unfold crashed;rw[←I8,if_neg (by rw[hu];simp)]
   rw[e1,D7]
   simp -implicitDefEqProofs only[go_sem,↓reduceIte,f7,di]
   exact⟨o,YH,Z8,Yc K2,A2⟩
  | true=>
   rw[hu]at di
   obtain⟨pt,ct,jL⟩:=N2.pt.data.1.isSlice
   have jL:na.data=.slice pt n.data.length ct:=jL
   have P2t:=P2.tape
   rw[jL]at P2t
   have ND:=N2.pt.data
   rw[jL]at ND
   obtain⟨L,Z,E,hLZ⟩:∃L Z E,Sb n.data n.Y9 a.Zc=(L,Z,E):=⟨_,_,_,rfl⟩
   have q3:hc g2 ⟨h.size,3,none⟩=some (.int .i64 a.Zc):=Zh y3.2
   have l3:=Za y3.2
   have call:∀G,Zg g2.size g2 G→Zd Tryz.prog T 60 #[.agg #[.slice pt n.data.length ct,.int .i64 n.Y9],.int .i64 a.Zc] G fun v' h'=>Zg G.size G h'∧cy G.size h' v' (L,Z,E):=fun G hG=>by
    rw[←hLZ];exact mK T G _ n.Y9 a.Zc n.data (ND.bs.Ya hG) (by omega)
   have wT:∀(G:Hp) (k:Nat) (m:Int) (p:Option Addr) (L c:Nat),G[k]? = some (.cells [.slice none 0 0,.int .i64 0].toArray 100)→wr G ⟨k,0,none⟩ [.slice p L c,.int .i64 m]=some (G.setIfInBounds k (.cells [.slice p L c,.int .i64 m].toArray 100)):=fun G k m p L c hx=>by
    rw[ZS hx 0 _];rfl
   rw[az a.node (w.nodes a.node) a.Zc L Z E (by rw[←I8];exact hu) (by rw[←I8];exact hLZ)]
   simp -implicitDefEqProofs only[go_sem,↓reduceIte,f7,di]
   refine VS.mono (N:=fun F' g'=>F' 0=.pointer (some ⟨wb,0,none⟩)∧F' 3=.pointer (some ⟨h.size,0,none⟩)∧Zg g2.size g2 g'∧∃kt p c,F' 8=.pointer (some ⟨kt,0,none⟩)∧g'[kt]? = some (.cells [.slice p L.length c,.int .i64 Z].toArray 100)∧Tv o g' (.slice p L.length c) L) ?_ ?_ (fun _ _ _ h=>h) (fun _ _ h=>h)
   ·refine VS.z (g2.size) [6,11] (.p 0 (.p 1 (.p 2 (.q 3 (.p 4 (.q 5 (.or 6 (.p 7 (.p 8 (.p 9 (.s 10 (.w 11 (.p 12 .nil)))))) (.s 10 (.w 6 (.p 7 (.p 8 (.p 9 (.w 11 (.p 12 .nil)))))))))))))) mixed (by kernel_rfl) ?_
    simp -implicitDefEqProofs only[go_sem,↓reduceIte,f0,f3,f7,P2t,q3,JR,l3]
    repeat' (first|with_reducible exact Zg.refl _ _|with_reducible exact Zg.push (by omega) _|with_reducible refine And.intro ?_ ?_)
    all_goals first
     | (refine (call g2 (Zg.refl _ _)).use ?_
        rintro _ g5 ⟨b5,p5,c5,L',Z',E',hz,rfl,bs,qF,xO⟩
        cases hz
        have s5:=b5.size
        have kk:=ZC K2.ZW b5
        have im:Tv o g5 (.slice p5 L.length c5) L:=KM kk.ZW bs qF fun b hb=>⟨K2.ZW b (xO b hb).1,(xO b hb).2⟩
        simp -implicitDefEqProofs only[go_sem,↓reduceIte,b5]
        exact⟨f0,f3,_,_,_,rfl,Zb,im.Zc (ZX kk.ZW _)⟩)
     | (refine (call (g2.push (.cells _ 100)) (Zg.push (Nat.le_refl _) _)).use ?_
        rintro _ g5 ⟨b5,p5,c5,L',Z',E',hz,rfl,bs,qF,xO⟩
        cases hz
        have B5:Zg g2.size g2 g5:=(Zg.push (Nat.le_refl _) _).trans (b5.mono (by simp))
        have xA:=b5.get (k:=g2.size) (by simp) Zb
        have TD:=wT _ _ Z p5 L.length c5 xA
        have zA:=Za xA
        have kk:=ZC K2.ZW B5
        have im:Tv o g5 (.slice p5 L.length c5) L:=KM kk.ZW bs qF fun b hb=>⟨K2.ZW b (by have:=(xO b hb).1;rw[Array.size_push]at this;omega),(xO b hb).2⟩
        have ks:=D8 kk.ZW im zA (fun b hb=>by have:=(xO b hb).1;rw[Array.size_push]at this;omega) (.cells [.slice p5 L.length c5,.int .i64 Z].toArray 100)
        simp -implicitDefEqProofs only[go_sem,↓reduceIte,B5,TD,zA]
        exact⟨f0,f3,_,_,_,rfl,Zv xA,ks⟩)
   clear f0 f3 f7
   rintro F3 g3 ⟨f0,f3,b3,kt,p3,c3,f8,yt,im3⟩
   have Wn:=ZC K2.ZW b3
   have K3:=K2.trans Wn
   have A3:=A2.still Wn
   have z3:=y3.Zc Wn
   obtain⟨b,off,c,hn,hc5,hb,OJ⟩:=Wi A3.wd
   have R3:=YZ A3.wd.ZF.2
   have Rn:=R3.nodes
   rw[hn]at Rn
   have Fu:=Za A3.wd.ZF.2
   have q1:hc g3 ⟨h.size,1,none⟩=some (.int .i64 a.node):=Zh z3.2
   have l3:=Za z3.2
   have rt:rd g3 ⟨kt,0,none⟩ 2=some [.slice p3 L.length c3,.int .i64 Z]:=Zp yt rfl
   have lt:=Za yt
   have cb:Zd Tryz.prog T 54 #[.int .i64 a.node,.agg #[.slice p3 L.length c3,.int .i64 Z],.agg #[.int .i64 0,.int .i64 0,.slice none 0 0]] g3 _:=KK T g3 o wb a.node (.slice p3 L.length c3) L Z (.slice none 0 0) XU K3.ZW im3 (Im.nil _ _ _ _)
   refine VS.z (g3.size) [12] (.p 0 (.p 1 (.p 2 (.q 3 (.p 4 (.q 5 (.p 6 (.q 7 (.q 8 (.p 9 (.s 10 (.p 11 (.w 12 .nil))))))))))))) mixed (by kernel_rfl) ?_
   simp -implicitDefEqProofs only[go_sem,↓reduceIte,f0,f3,f8,Rn,q1,rt,Fu,l3,lt,hb,cF]
   refine cb.use ?_
   rintro _ g4 ⟨nb,o4,a4,rfl,b4,k4,N4⟩
   have W4:=A3.wd.Zc k4 (by rintro t (rfl|rfl)<;>simp[Tg.of])
   obtain⟨b',Zo5,c',g5,Rj,w5,k5,W5⟩:=H5 k4.ZW W4 a.node nb hi
   rw[hn]at Rj
   simp only[Value.slice.injEq,Option.some.injEq,Addr.mk.injEq,true_and,and_true]at Rj
   obtain⟨⟨rfl,rfl⟩,rfl⟩:=Rj
   have hb4:b<g4.size:=Nat.lt_of_lt_of_le hb b4.size
   have N5:=N4.Zc k5 (by rintro t rfl e;cases e)
   have K5:Kp Vn o h o4 g5:=((Yc K3).trans (Yc k4)).trans (Yc k5)
   have z5:=(z3.Zc k4).Zc k5
   unfold Zo at w5 ⊢
   simp -implicitDefEqProofs only[go_sem,↓reduceIte,b4,w5,hb4,cF]
   have R5:=YZ W5.ZF.2
   have R5n:=R5.nodes
   rw[hn]at R5n
   obtain⟨b'',Zt1,c'',Zbn,_,hb5,Zo6⟩:=Wi W5
   rw[hn]at Zbn
   simp only[Value.slice.injEq,Option.some.injEq,Addr.mk.injEq,true_and,and_true]at Zbn
   obtain⟨⟨rfl,rfl⟩,rfl⟩:=Zbn
   have ri5:=Zo6 a.node hi
   simp only[↓reduceIte]at ri5
   unfold Zo at ri5
   have ax:=Za W5.ZF.2
   have jM:hc g5 ⟨h.size,1,none⟩=some (.int .i64 a.node):=Zh z5.2
   have l35:=Za z5.2
   have Pa:=Za N5.ZF.2
   obtain⟨g6,w6,N6,k6⟩:=ZU.write (n:={ blank a.node true L Z XU with up:=false }) (a:=a4) { N5.pt with } K5.ZW N5.ZF ((YT N5.ZF.2 N5.pt.store.len).up false)
   refine VS.z (g5.size) [10] (.p 0 (.p 1 (.p 2 (.q 3 (.p 4 (.q 5 (.p 6 (.q 7 (.p 8 (.p 9 (.w 10 .nil))))))))))) mixed (by kernel_rfl) ?_
   simp -implicitDefEqProofs only[go_sem,↓reduceIte,f0,f3,R5n,jM,ax,l35,hb5,cF,ri5,Pa,w6]
   have kk:Kp (fun t=>t=.nodes∨t.of=some a.node) o g3 o4 g6:=((k4.mono fun t q=>by rcases q with rfl|rfl<;>exact .inr rfl).trans (k5.mono fun t q=>.inl q)).trans (k6.mono fun t q=>.inr (by rw[q];rfl))
   exact⟨o4,YH,_,K5.trans (Yc k6),A3.fresh kk N6 (W5.Zc k6 (by rintro t rfl;simp[Tg.of]))⟩
 ·-- a start
  have ea:act w a=w.set a.node (started a.node (w.nodes a.node)):=by unfold act;rw[if_neg (by omega),if_neg (by omega),if_neg (by omega),if_neg (by omega),if_neg (by omega),if_neg (by omega)]
  rw[ea]
  rw[e]at q0
  obtain⟨n,I8⟩:=Zy (w.nodes a.node)
  have Zbm:=ok.data _ hi
  rw[←I8]at N1 Zbm
  simp -implicitDefEqProofs only[go_sem,↓reduceIte,e0,q0]
  refine VS.mono (N:=fun F' g'=>Zg h1.size h1 g'∧F' 0=.pointer (some ⟨wb,0,none⟩)∧F' 3=.pointer (some ⟨h.size,0,none⟩)∧F' 10=.pointer (some ⟨Z8 a.node,0,none⟩)) ?_ ?_ (fun _ _ _ h=>h) (fun _ _ h=>h)
  ·refine VS.z (h1.size) [] (.p 0 (.p 1 (.p 2 (.q 3 (.p 4 (.q 5 (.p 6 (.q 7 (.p 8 .nil))))))))) mixed (by kernel_rfl) ?_
   simp -implicitDefEqProofs only[go_sem,↓reduceIte,Rn,q1,Fu,l3,hb,cF,ri]
   try exact Zg.refl _ _
  rintro F2 g2 ⟨b2,f0,f3,f10⟩
  have Ra:=ZC k1.ZW b2
  have A2:=A1.still Ra
  have N2:=N1.still Ra
  have K2:=k1.trans Ra
  have BO:=tb1.Zc Ra
  have y3:=x3.Zc Ra
  have P2:=Zx N2.ZF.2 N2.pt.store.len
  have di:=P2.up
  have JR:=Za N2.ZF.2
  cases hu:n.up with
  | true=>
   rw[hu]at di
   have e1:started a.node (w.nodes a.node)=w.nodes a.node:=by unfold started;rw[←I8,if_pos hu]
   rw[e1,D7]
   simp -implicitDefEqProofs only[go_sem,↓reduceIte,f10,di]
   exact⟨o,YH,Z8,Yc K2,A2⟩
  | false=>
   rw[hu]at di
   obtain⟨pt,ct,jL,hct⟩:=N2.pt.data.1.fits
   have jL:na.data=.slice pt n.data.length ct:=jL
   have P2t:=P2.tape
   rw[jL]at P2t
   have ND:=N2.pt.data
   rw[jL]at ND
   obtain⟨D,hD⟩:=Zy (Kv n.data n.Y9)
   obtain⟨Z,hZ⟩:=Zy (A0 n.data n.Y9)
   obtain⟨Wv,Zgc⟩:=Zy (if YO D Z then (Wg D).1 else XU)
   have es:started a.node (w.nodes a.node)=blank a.node true D Z Wv:=by unfold started;rw[←I8,if_neg (by rw[hu];simp),Zgc,hD,hZ]
   rw[es]
   have hDl:D.length≤1000000:=by
    rw[hD];unfold Kv;split
    ·rw[List.length_take];omega
    ·simp
   simp -implicitDefEqProofs only[go_sem,↓reduceIte,f10,di,P2t]
   refine (gN T g2 _ n.Y9 n.data ND.bs hct (by omega) BO.tk).use ?_
   rintro v3 g3 ⟨R3,b3⟩
   obtain⟨p3,c3,E3,rfl,o3⟩:∃p c E,v3=.tuple [.agg [.slice p D.length c,.int .i64 Z].toArray,.int .i64 E].toArray∧Z0 g2.size 5 g3 (.slice p D.length c) D:=by
    obtain⟨r,k,E,w',rfl,ob,hk,hr⟩:=R3
    have h1:(if E=0 then n.data.take k else [])=D:=by
     rw[hD];unfold Kv
     split at hr
     ·rename_i q;rw[if_pos hr.1,if_pos q,SX hr.2]
     ·rename_i q;rw[if_neg (show ¬E=0 by omega),if_neg q]
    have h2:(if E=0 then (if (k:Int)<n.Y9 then (k:Int) else n.Y9) else 0)=Z:=by
     rw[hZ];unfold A0
     split at hr
     ·rename_i q;rw[if_pos hr.1,if_pos q,SX hr.2]
     ·rename_i q;rw[if_neg (show ¬E=0 by omega),if_neg q]
    rw[h1]at ob
    rw[h2]
    obtain⟨p,c,rfl,_⟩:=ob.open
    exact⟨p,c,E,rfl,ob⟩
   have Wn:=ZC K2.ZW b3
   obtain⟨g4,OI⟩:=Zy (g3.push (.cells [.slice p3 D.length c3,.int .i64 Z].toArray 100):Hp)
   have k4:Kp Qz o g2 o g4:=by rw[OI];exact Wn.push _
   have x11:ZN o g4 g3.size (.cells [.slice p3 D.length c3,.int .i64 Z].toArray 100):=⟨Wn.ZW _ (Nat.le_refl _),by rw[OI];exact Zb⟩
   have e4:=OI.symm
   have iD4:Tv o g4 (.slice p3 D.length c3) D:=by rw[OI];exact Tv.Zc ⟨Im.QZ o3.own (fun b hb=>K2.ZW b hb),o3.byte⟩ (ZX Wn.ZW _)
   have r11:rd g4 ⟨g3.size,0,none⟩ 2=some [.slice p3 D.length c3,.int .i64 Z]:=Zp x11.2 rfl
   have tb4:=BO.Zc k4
   simp -implicitDefEqProofs only[go_sem,↓reduceIte,e4,r11]
   refine (Kr T g4 _ Z D iD4.bs (by omega) tb4.tk).use ?_
   rintro v5 g5 ⟨R5,b5⟩
   obtain⟨p5,c5,E5,K5',rfl,o5⟩:∃p c E K,v5=.tuple [.agg [.int .i64 Wv.p.r,.int .i64 Wv.p.n,.slice p Wv.l.length c].toArray,.int .i64 K,.int .i64 E].toArray∧Wm o g5 (.slice p Wv.l.length c) Wv.l:=by
    obtain⟨r,k,E,w',rfl,ob,hk,_,hr⟩:=R5
    have h1:r=Wv:=by
     rw[Zgc]
     split at hr
     ·rw[if_pos (by assumption),SX hr.2]
     ·rw[if_neg (by assumption)];exact hr.2.1
    rw[h1]at ob ⊢
    have im:Wm o g5 w' Wv.l:=Im.QZ ob.own (fun b hb=>k4.ZW b hb)
    obtain⟨p,c,rfl⟩:=im.isSlice
    exact⟨p,c,E,_,rfl,im⟩
   have HT:=ZC k4.ZW b5
   obtain⟨g6,Rb⟩:=Zy (g5.push (.cells [.int .i64 Wv.p.r,.int .i64 Wv.p.n,.slice p5 Wv.l.length c5].toArray 105):Hp)
   have k6:Kp Qz o g4 o g6:=by rw[Rb];exact HT.push _
   have x13:ZN o g6 g5.size (.cells [.int .i64 Wv.p.r,.int .i64 Wv.p.n,.slice p5 Wv.l.length c5].toArray 105):=⟨HT.ZW _ (Nat.le_refl _),by rw[Rb];exact Zb⟩
   have e6:=Rb.symm
   have K6:Kp Qz o h o g6:=(K2.trans k4).trans k6
   have iD6:=iD4.Zc k6
   have iV6:Wm o g6 (.slice p5 Wv.l.length c5) Wv.l:=by rw[Rb];exact o5.Zc (ZX HT.ZW _)
   have A6:=(A2.still k4).still k6
   have z3:=(y3.Zc k4).Zc k6
   have z11:=x11.Zc k6
   clear hn hc5 hb OJ Rn Fu q1 l3 ri
   obtain⟨b,off,c,hn,hc5,hb,OJ⟩:=Wi A6.wd
   have R6:=YZ A6.wd.ZF.2
   have Rn:=R6.nodes
   rw[hn]at Rn
   have Fu:=Za A6.wd.ZF.2
   have q1:hc g6 ⟨h.size,1,none⟩=some (.int .i64 a.node):=Zh z3.2
   have l3:=Za z3.2
   have rt:rd g6 ⟨g3.size,0,none⟩ 2=some [.slice p3 D.length c3,.int .i64 Z]:=Zp z11.2 rfl
   have lt:=Za z11.2
   have ra:rd g6 ⟨g5.size,0,none⟩ 3=some [.int .i64 Wv.p.r,.int .i64 Wv.p.n,.slice p5 Wv.l.length c5]:=Zp x13.2 rfl
   have la:=Za x13.2
   have cb:=KK T g6 o wb a.node (.slice p3 D.length c3) D Z (.slice p5 Wv.l.length c5) Wv K6.ZW iD6 iV6
   simp -implicitDefEqProofs only[go_sem,↓reduceIte,e6]
   refine VS.z (g6.size) [12] (.p 0 (.p 1 (.p 2 (.q 3 (.p 4 (.q 5 (.p 6 (.q 7 (.q 8 (.q 9 (.s 10 (.p 11 (.w 12 .nil))))))))))))) mixed (by kernel_rfl) ?_
   simp -implicitDefEqProofs only[go_sem,↓reduceIte,f0,f3,Rn,q1,rt,ra,Fu,l3,lt,la,hb,cF]
   refine cb.use ?_
   rintro _ g7 ⟨nb,o7,a7,rfl,b7,k7,N7⟩
   have W7:=A6.wd.Zc k7 (by rintro t (rfl|rfl)<;>simp[Tg.of])
   obtain⟨b',Zo5,c',g8,Rj,w8,k8,W8⟩:=H5 k7.ZW W7 a.node nb hi
   rw[hn]at Rj
   simp only[Value.slice.injEq,Option.some.injEq,Addr.mk.injEq,true_and,and_true]at Rj
   obtain⟨⟨rfl,rfl⟩,rfl⟩:=Rj
   have hb7:b<g7.size:=Nat.lt_of_lt_of_le hb b7.size
   have N8:=N7.Zc k8 (by rintro t rfl e;cases e)
   have K8:Kp Vn o h o7 g8:=((Yc K6).trans (Yc k7)).trans (Yc k8)
   unfold Zo at w8 ⊢
   simp -implicitDefEqProofs only[go_sem,↓reduceIte,b7,w8,hb7,cF]
   have kk:Kp (fun t=>t=.nodes∨t.of=some a.node) o g6 o7 g8:=(k7.mono fun t q=>by rcases q with rfl|rfl<;>exact .inr rfl).trans (k8.mono fun t q=>.inl q)
   exact⟨o7,YH,_,K8,A6.fresh kk N8 W8⟩
def KP (Z8:Nat→Nat) (j:Nat):List Value:=(List.range j).map fun i=>Zo (Z8 i)
theorem aE (Z8:Nat→Nat) (j:Nat):KP Z8 (j+1)=KP Z8 j++[Zo (Z8 j)]:=by
 unfold KP;rw[List.range_succ,List.map_append];rfl
theorem aF (Z8:Nat→Nat) (j nb:Nat):KP (fun i=>if i=j then nb else Z8 i) j=KP Z8 j:=by
 unfold KP
 apply List.map_congr_left
 intro i hi
 rw[List.mem_range]at hi
 simp only
 rw[if_neg (by omega)]
set_option maxHeartbeats 4000000 in
theorem pK (T:World) (h:Hp) (o:Ow) (d:Uq o h) :
  Zd Tryz.prog T 33 #[] h fun v' h'=>∃wb Z8 o' YH,v'=Zo wb∧Kp Vn o h o' h'∧Jf o' h' wb Z8 YH Vj:=by
 refine Zd.Zj (args:=[]) Tryz.func33 rfl rfl rfl rfl ?_
 obtain⟨wb,Zbo⟩:=Zy (h.size)
 obtain⟨g1,OP⟩:=Zy (h.push (.cells (Xd (fun _=>0) ⟨.slice none 0 0,.slice none 0 0,.slice none 0 0⟩).toArray 97):Hp)
 have e1:=OP.symm
 unfold Xd at e1
 simp only at e1
 have k1:Kp Vn o h (Jz o wb .world) g1:=by rw[OP,Zbo];exact ((Kp.refl d Vn).push _).TY (Nat.le_refl _) (by simp) trivial
 have B1:QP (Jz o wb .world) .world g1 wb (.cells (Xd (fun _=>0) ⟨.slice none 0 0,.slice none 0 0,.slice none 0 0⟩).toArray 97):=⟨Y1,by rw[OP,Zbo];exact Zb⟩
 simp -implicitDefEqProofs only[go_sem,↓reduceIte,e1]
 rw[←Zbo]
 refine VS.ZV (fun F g=>F 1=.pointer (some ⟨wb,0,none⟩)∧∃(j:Nat) (o':Ow) (Z8:Nat→Nat) (v:Value),j≤5∧F 5=.int .i64 j∧Kp Vn o h o' g∧QP o' .world g wb (.cells (Xd (fun _=>0) ⟨v,.slice none 0 0,.slice none 0 0⟩).toArray 97)∧YB o' .nodes 98 1 g v j (KP Z8 j)∧∀i,i<j→∃a,ZJ o' g wb i (Z8 i) a (blank i true [] 0 XU))
  (fun F _=>5-(vi (F 5)).toNat) rfl ⟨rfl,0,_,fun _=>0,.slice none 0 0,by omega,rfl,k1,B1,YB.nil _ _ _ _ _,fun i hi=>by omega⟩ ?_
 clear B1 k1 e1 OP
 rintro F2 g2 ⟨f1,j,o2,Z8,v,hj,f5,K2,B2,O2,N2⟩
 by_cases ZD:j<5
 ·have ZL:(j:Int)<5:=by omega
  obtain⟨pv,cv,rfl,_⟩:=O2.isSlice
  have R2:=YZ B2.2
  have Rn:=R2.nodes
  simp only at Rn
  have Fu:=Za B2.2
  have cb:Zd Tryz.prog T 54 #[.int .i64 j,.agg #[.slice none 0 0,.int .i64 0],.agg #[.int .i64 0,.int .i64 0,.slice none 0 0]] g2 _:=KK T g2 o2 wb j (.slice none 0 0) [] 0 (.slice none 0 0) XU K2.ZW ⟨Im.nil _ _ _ _,fun x hx=>by cases hx⟩ (Im.nil _ _ _ _)
  simp -implicitDefEqProofs only[go_sem,↓reduceIte,f1,f5,ZL]
  refine VS.z (g2.size) [10,13] (.p 0 (.p 1 (.p 2 (.p 3 (.q 4 (.p 5 (.p 6 (.p 7 (.s 8 (.s 9 (.w 10 (.p 11 (.p 12 (.w 13 .nil)))))))))))))) mixed (by kernel_rfl) ?_
  simp -implicitDefEqProofs only[go_sem,↓reduceIte,f1,f5,Rn,Fu]
  refine cb.use ?_
  rintro _ g3 ⟨nb,o3,a3,rfl,b3,k3,N3⟩
  unfold Zo
  simp -implicitDefEqProofs only[go_sem,↓reduceIte,b3]
  obtain⟨g4,OI⟩:=Zy (g3.push (.cells [Zo nb].toArray 98):Hp)
  have e4:=OI.symm
  unfold Zo at e4
  rw[e4]
  have k4:Kp Qz o3 g3 o3 g4:=by rw[OI];exact ZX k3.ZW _
  have B4:=(B2.Zc k3 (by rintro (e|e)<;>cases e)).Zc k4 (fun q=>q)
  have O4:=(O2.Zc k3 (by rintro (e|e)<;>cases e)).Zc k4 (fun q=>q)
  have N4:=N3.still k4
  have M4:∀i,i<j→∃a,ZJ o3 g4 wb i (Z8 i) a (blank i true [] 0 XU):=fun i hi=>by
   obtain⟨a,N⟩:=N2 i hi
   refine⟨a,(N.Zc k3 ?_).still k4⟩
   rintro t (rfl|rfl) e
   ·have:=Option.some.inj e;omega
   ·have:=Option.some.inj e;omega
  have x4:g4[g3.size]? = some (.cells [Zo nb].toArray 98):=by rw[OI];exact Zb
  have src:Sl 1 g4 (.slice (some ⟨g3.size,0,none⟩) 1 1) 1 [Zo nb]:=⟨_,1,rfl,rfl,fun _=>⟨g3.size,0,rfl,fun i hi=>by
   rw[Zh x4,Ym,Nat.zero_add];exact List.getElem?_eq_getElem hi⟩⟩
  refine X0 (E:=98) (n:=1) (bytes:=8) (k:=1) ZdO Tryz.underlying94 Zln Zlp rfl Zlo O4 k4.ZW src rfl (by omega) (by omega) ?_
  intro v' o5 g5 O5 k5 _
  have k5:Kp (fun u=>u=.nodes) o3 g4 o5 g5:=k5
  obtain⟨p5,c5,rfl,_⟩:=O5.isSlice
  have B5:=B4.Zc k5 (by intro e;cases e)
  have w5:=(YZ B5.2).ZaS (.slice p5 (j+1) c5) rfl
  have ax:=Za B5.2
  obtain⟨g6,Rb⟩:=Zy (g5.setIfInBounds wb (.cells (Xd (fun _=>0) ⟨.slice p5 (j+1) c5,.slice none 0 0,.slice none 0 0⟩).toArray 97))
  simp only at w5
  rw[←Rb]at w5
  have k6:Kp (fun t=>t=.world) o5 g5 o5 g6:=by rw[Rb];exact (Kp.refl k5.ZW (fun t=>t=.world)).set B5.1 rfl _
  have B6:QP o5 .world g6 wb (.cells (Xd (fun _=>0) ⟨.slice p5 (j+1) c5,.slice none 0 0,.slice none 0 0⟩).toArray 97):=⟨B5.1,by rw[Rb];exact Zv B5.2⟩
  have K6:Kp Vn o h o5 g6:=(((K2.trans (Yc k3)).trans (Yc k4)).trans (Yc k5)).trans (Yc k6)
  simp -implicitDefEqProofs only[go_sem,↓reduceIte,w5,ax,f5]
  unfold Y4
  refine⟨⟨f1,j+1,o5,(fun i=>if i=j then nb else Z8 i),.slice p5 (j+1) c5,ZD,rfl,K6,B6,?_,fun i hi=>?_⟩,?_⟩
  ·rw[aE,aF]
   simp only[↓reduceIte]
   exact O5.Zc k6 (by intro e;cases e)
  ·by_cases e:i=j
   ·subst e
    refine⟨a3,?_⟩
    simp only[↓reduceIte]
    exact (N4.Zc k5 (by rintro t rfl e;cases e)).Zc k6 (by rintro t rfl e;cases e)
   ·obtain⟨a,N⟩:=M4 i (by omega)
    refine⟨a,?_⟩
    simp only[if_neg e]
    exact (N.Zc k5 (by rintro t rfl e;cases e)).Zc k6 (by rintro t rfl e;cases e)
  ·simp only[vi,Zk,↓reduceIte,f5];omega
 ·have YJ:¬(j:Int)<5:=by omega
  obtain rfl:j=5:=by omega
  simp -implicitDefEqProofs only[go_sem,↓reduceIte,f1,f5,YJ]
  exact⟨wb,Z8,o2,_,rfl,K2,⟨B2,O2,⟨[],rfl,YB.nil _ _ _ _ _,fun x hx=>by cases hx⟩,YB.nil _ _ _ _ _⟩,fun i hi=>N2 i hi⟩
theorem aG (T:World) (h:Hp) (u:Value) (l:List Cm) (s:Ts Qu.C 5 h u l) (hl:l.length≤2199023255552) :
  Zd Tryz.prog T 35 #[u] h fun v' h'=>Jk h.size 49 Qu.C 5 h' v' l∧Zg h.size h h':=by
 obtain⟨p,c,rfl,UF⟩:=JM s
 refine Zd.Zj (args:=[_]) Tryz.func35 rfl rfl rfl rfl ?_
 cases p with
 | none=>
  have:l=[]:=by
   cases l with
   | nil=>rfl
   | cons x l=>obtain⟨b,o,hp,_⟩:=UF (by simp);cases hp
  subst this
  simp -implicitDefEqProofs only[go_sem,↓reduceIte]
  exact Jk.nil _ _ _ _ _
 | some a=>
  simp -implicitDefEqProofs only[go_sem,↓reduceIte]
  refine SG (E:=49) (B:=h.size) (n:=5) (bytes:=40) EB Tryz.underlying37 zF mg rfl ZdN (fun _=>rfl) (Jk.Iw _ _ Qu.C 5 _ _) (by simp) (s.Ya (Zg.push (Nat.le_refl _) _)) (by simp;omega) (by omega) ?_
  intro v' h' ho hb _
  simp -implicitDefEqProofs only[go_sem,↓reduceIte]
  exact⟨by simpa using ho,(Zg.push (Nat.le_refl _) _).trans hb⟩
structure Raw where
 k:Int
 n:Int
 a:Int
 b:Int
 data:List Nat
def Raw.ac (x:Raw):Ac:=⟨x.k,x.n.toNat,x.a.toNat,x.b,x.data⟩
def Raw.err (x:Raw):Int:=QE x.k x.n x.a x.b x.data.length
def JU (x:Raw × Value):List Value:=VT x.1.k x.1.n x.1.a x.1.b x.2
def JV:List Raw→Int
 | []=>0
 | x :: l=>if x.err≠0 then x.err else JV l
def Vp (l:List Raw):Int:=if 100000<l.length then 1 else JV l
theorem Ce (x:Raw × Value):(JU x).length=5:=rfl
theorem KQ {l:List Raw} {j:Nat} (hj:j<l.length) (h0:∀x∈l.take j,x.err=0) (h1:l[j].err≠0):JV l=l[j].err:=by
 induction l generalizing j with
 | nil=>simp at hj
 | cons y l ih=>
  cases j with
  | zero=>unfold JV;rw[if_pos (by simpa using h1)];rfl
  | succ j=>
   unfold JV
   rw[if_neg (by simpa using h0 y (by simp))]
   exact ih (by simpa using hj) (fun x hx=>h0 x (by simp[hx])) (by simpa using h1)
theorem Sr {l:List Raw} (h0:∀x∈l,x.err=0):JV l=0:=by
 induction l with
 | nil=>rfl
 | cons y l ih=>unfold JV;rw[if_neg (by simpa using h0 y (by simp))];exact ih fun x hx=>h0 x (by simp[hx])
theorem KR {x:Raw} (h:x.err=0):(1≤x.k∧x.k≤9)∧(0≤x.n∧x.n≤4)∧(0≤x.a∧x.a≤1048576)∧(0≤x.b∧x.b≤100000)∧x.data.length≤2000:=by
 unfold Raw.err QE at h
 by_cases c1:1≤x.k∧x.k≤9
 case neg=>rw[if_pos c1]at h;cases h
 rw[if_neg (by simpa using c1)]at h
 by_cases c2:(YS x.k∧¬(0≤x.n∧x.n≤4))∨(Js x.k∧¬(0≤x.a∧x.a≤1048576))∨(x.k=8∧¬(0≤x.b∧x.b≤100000))
 ·rw[if_pos c2]at h;cases h
 rw[if_neg c2]at h
 by_cases c3:2000<x.data.length
 ·rw[if_pos c3]at h;cases h
 rw[if_neg c3]at h
 by_cases c4:(¬YS x.k∧x.n≠0)∨(¬Js x.k∧x.a≠0)∨(x.k≠8∧x.b≠0)∨(x.k≠1∧0<x.data.length)
 ·rw[if_pos c4]at h;cases h
 refine⟨c1,?_,?_,?_,by omega⟩
 ·by_cases q:YS x.k
  ·exact Classical.byContradiction fun e=>c2 (.inl ⟨q,e⟩)
  ·have:x.n=0:=Classical.byContradiction fun e=>c4 (.inl ⟨q,e⟩)
   omega
 ·by_cases q:Js x.k
  ·exact Classical.byContradiction fun e=>c2 (.inr (.inl ⟨q,e⟩))
  ·have:x.a=0:=Classical.byContradiction fun e=>c4 (.inr (.inl ⟨q,e⟩))
   omega
 ·by_cases q:x.k=8
  ·exact Classical.byContradiction fun e=>c2 (.inr (.inr ⟨q,e⟩))
  ·have:x.b=0:=Classical.byContradiction fun e=>c4 (.inr (.inr (.inl ⟨q,e⟩)))
   omega
def Y0 (xs:List (Raw × Value)):List Raw:=xs.map (·.1)
def Pe:Ow:=fun _=>none
theorem Ss (h:Hp):Uq Pe h:=fun _ _=>rfl
theorem Pf {S:Tg→Prop} {h h':Hp} {o':Ow} (k:Kp S Pe h o' h'):Zg h.size h h':=
 ⟨k.size,fun b hb=>(k.Zc b hb fun t ht=>by cases ht).1⟩
def jN:List Value:=[.int .i64 0,.bool false,.bool false,.bool false,.bool false,.bool false,.slice none 0 0,.int .i64 0,.int .i64 0,.int .i64 0,.int .i64 0,.int .i64 0,.slice none 0 0]
def aH (w:Wd) (lv tv:Value):List Value:=[.int .i64 w.Zm.length,.bool (w.nodes 0).up,.bool (w.nodes 1).up,.bool (w.nodes 2).up,.bool (w.nodes 3).up,.bool (w.nodes 4).up,lv,.int .i64 (w.bad 0),.int .i64 (w.bad 1),.int .i64 (w.bad 2),.int .i64 (w.bad 3),.int .i64 (w.bad 4),tv]
structure aI (h:Hp) (R:List Value) (w:Wd) (lv tv:Value) (vs:List Value):Prop where
 cells:R=aH w lv tv
 Zbp:Ts (fun v=>[v]) 1 h lv vs
 each:Cz (fun v l=>Ts Qu.C 5 h v l) vs [(w.nodes 0).log,(w.nodes 1).log,(w.nodes 2).log,(w.nodes 3).log,(w.nodes 4).log]
 told:Ts Kx 5 h tv w.told
def Uy (B:Nat) (h:Hp) (R:List Value) (w:Wd) (lv tv:Value) (vs:List Value):Prop:=∀G:Hp,(∀b,B≤b→b<h.size→G[b]? = h[b]?)→aI G R w lv tv vs
theorem Uy.at {B:Nat} {h:Hp} {R:List Value} {w:Wd} {lv tv:Value} {vs:List Value} (s:Uy B h R w lv tv vs):aI h R w lv tv vs:=s h fun _ _ _=>rfl
theorem Uy.Ya {B:Nat} {h h':Hp} {R:List Value} {w:Wd} {lv tv:Value} {vs:List Value} (s:Uy B h R w lv tv vs) (b:Zg h.size h h'):Uy B h' R w lv tv vs:=
 fun G hG=>s G fun k h1 h2=>by rw[hG k h1 (Nat.lt_of_lt_of_le h2 b.size)];exact b.block k h2
theorem Uy.set {B:Nat} {h:Hp} {R:List Value} {w:Wd} {lv tv:Value} {vs:List Value} (s:Uy B h R w lv tv vs) {k:Nat} (hk:k<B) (x:Obj):Uy B (h.setIfInBounds k x) R w lv tv vs:=
 fun G hG=>s G fun b h1 h2=>by rw[hG b h1 (by simpa using h2),Array.getElem?_setIfInBounds,if_neg (by omega)]
def H7 (B:Nat) (h':Hp) (v':Value) (l:List Raw):Prop:=
 if Vp l=0 then ∃R lv tv vs,v'=.tuple #[.agg R.toArray,.int .i64 0]∧Uy B h' R (RY (l.map Raw.ac)) lv tv vs
 else v'=.tuple #[.agg jN.toArray,.int .i64 (Vp l)]
theorem H8 {h:Hp} {v:Value} {l:List (Raw × Value)} (s:Ts JU 5 h v l):∃p c,v=.slice p l.length c∧(l≠[]→∃b o,p=some ⟨b,o,none⟩∧b<h.size∧∀i (hi:i<l.length),rd h ⟨b,o+i*5,none⟩ 5=some (JU l[i])):=by
 obtain⟨p,c,hv,hh⟩:=s.open Ce (by decide)
 refine⟨p,c,hv,fun Yw=>?_⟩
 obtain⟨b,o,h1,h2,h3⟩:=hh Yw
 exact⟨b,o,h1,h2,fun i hi=>(h3 i hi).rd (by simp[JU,VT]) rfl⟩
def Cf (w:Wd) (j:Nat) (lv tv:Value):List Value:=[.int .i64 w.Zm.length,.bool (if 0<j then (w.nodes 0).up else false),.bool (if 1<j then (w.nodes 1).up else false),.bool (if 2<j then (w.nodes 2).up else false),.bool (if 3<j then (w.nodes 3).up else false),.bool (if 4<j then (w.nodes 4).up else false),lv,.int .i64 (w.bad 0),.int .i64 (w.bad 1),.int .i64 (w.bad 2),.int .i64 (w.bad 3),.int .i64 (w.bad 4),tv]
theorem dy (w:Wd) (j:Nat) (lv tv:Value):(Cf w j lv tv).length=13:=rfl
theorem Zbq (w:Wd) (j:Nat) (lv tv:Value) (hj:j<5):(Cf w j lv tv).set (1+j) (.bool (w.nodes j).up)=Cf w (j+1) lv tv:=by
 match j,hj with
 | 0,_=>rfl
 | 1,_=>rfl
 | 2,_=>rfl
 | 3,_=>rfl
 | 4,_=>rfl
theorem vG (w:Wd) (j:Nat) (lv lv' tv:Value):(Cf w j lv tv).set 6 lv'=Cf w j lv' tv:=rfl
def KT (w:Wd) (j:Nat):List (List Cm):=(List.range j).map fun i=>(w.nodes i).log
theorem Cg (w:Wd) (j:Nat):KT w (j+1)=KT w j++[(w.nodes j).log]:=by
 unfold KT;rw[List.range_succ,List.map_append];rfl
def aJ (t:Tg):Prop:=t=.log 100∨t=.log 101
theorem KU {α β:Type} {R R':α→β→Prop} {l:List α} {k:List β} (s:Cz R l k) (h:∀x y,R x y→R' x y):Cz R' l k:=by
 induction s with
 | nil=>exact .nil
 | cons a _ ih=>exact .cons (h _ _ a) ih
theorem iJ (l:List Value):Zz (fun v=>[v]) l=l:=by
 induction l with
 | nil=>rfl
 | cons x l ih=>
  have:Zz (fun v=>[v]) (x :: l)=[x]++Zz (fun v=>[v]) l:=by simp[Zz]
  rw[this,ih];rfl
theorem pL {o:Ow} {t:Tg} {E:TypeId} {n m b:Nat} {h:Hp} {v:Value} {cs:List Value} (s:YB o t E n h v m cs) (hb:ZO v=some b):o b=some t:=by
 rcases s with⟨⟨q,rfl⟩,_,_⟩|⟨b',j,cap,pre,spare,h1,rfl,h3,h4,h5,h6,h7⟩
 ·cases q<;>simp[ZO]at hb
 ·unfold ZO at hb
  simp only at hb
  split at hb
  ·cases hb
  ·have:=Option.some.inj hb
   rw[←this];exact h1
theorem dz {o:Ow} {t:Tg} {E:TypeId} {n m:Nat} {h G:Hp} {v:Value} {cs:List Value} (s:YB o t E n h v m cs) (hG:∀b,o b=some t→b<h.size→G[b]? = h[b]?):YB o t E n G v m cs:=by
 rcases s with s|⟨b',j,cap,pre,spare,h1,rfl,h3,h4,h5,h6,h7⟩
 ·exact .inl s
 ·exact .inr ⟨b',j,cap,pre,spare,h1,rfl,by rw[hG b' h1 (Za h3)];exact h3,h4,h5,h6,h7⟩
theorem Zgd {o:Ow} {n m:Nat} {h G:Hp} {v:Value} {cs:List Value} (s:Im o n h v m cs) (hG:∀b,ZO v=some b→b<h.size→G[b]? = h[b]?):Sl n G v m cs:=by
 obtain⟨⟨p,c,rfl,hl,qF⟩,⟨p',c',he,hm⟩,hf⟩:=s
 simp only[Value.slice.injEq,true_and]at he
 obtain⟨rfl,rfl⟩:=he
 refine⟨p,c,rfl,hl,fun Yw=>?_⟩
 obtain⟨b,off,rfl,YV⟩:=qF Yw
 have bF:c≠0:=by
  intro e
  have:m=0:=by omega
  rw[this,Nat.zero_mul]at hl
  exact Yw (List.eq_nil_of_length_eq_zero hl)
 have hb:ZO (.slice (some ⟨b,off,none⟩) m c)=some b:=by unfold ZO;simp only;rw[if_neg bF]
 refine⟨b,off,rfl,fun i hi=>?_⟩
 have h1:=YV i hi
 have h2:=hG b hb (hf b hb).1
 unfold V.hc at h1 ⊢
 rw[h2];exact h1
theorem Ch {S:Tg→Prop} {h h':Hp} {o':Ow} {t:Tg} {b:Nat} (k:Kp S Pe h o' h') (hb:o' b=some t):h.size≤b:=by
 refine Classical.byContradiction fun q=>?_
 obtain⟨_,h2⟩:=k.Zc b (by omega) (fun t ht=>by cases ht)
 rw[hb]at h2;cases h2
set_option maxHeartbeats 8000000 in
theorem vH (T:World) (h:Hp) (v:Value) (xs:List (Raw × Value)) (hv:Ts JU 5 h v xs) (hx:∀x∈xs,Tv Pe h x.2 x.1.data) (tb:CI Pe h) (CD:xs.length≤4611686018427387904)
  (inv:(∀x∈Y0 xs,x.err=0)→xs.length≤100000→∀j,j≤xs.length→WOk (RY (((Y0 xs).take j).map Raw.ac))) :
  Zd Tryz.prog T 20 #[v] h fun v' h'=>Zg h.size h h'∧H7 h.size h' v' (Y0 xs):=by
 obtain⟨p,c,rfl,YV⟩:=H8 hv
 refine Zd.XO (args:=[_]) Tryz.func20 rfl rfl rfl rfl ?_
 obtain⟨h1,YD⟩:=Zy (h.push (.cells jN.toArray 33):Hp)
 have e1:=YD.symm
 unfold jN at e1
 have b1:Zg h.size h h1:=by rw[YD];exact Zg.push (Nat.le_refl _) _
 have s1:h1.size=h.size+1:=by rw[YD];simp
 have x2:h1[h.size]? = some (.cells jN.toArray 33):=by rw[YD];exact Zb
 have rl:(Y0 xs).length=xs.length:=by unfold Y0;simp
 have rz:∀G:Hp,Zg h1.size h1 G→G[h.size]? = some (.cells jN.toArray 33):=fun G hG=>hG.get (by omega) x2
 have wz:∀G:Hp,Zg h1.size h1 G→wr G ⟨h.size,0,none⟩ [.int .i64 0,.bool false,.bool false,.bool false,.bool false,.bool false,.slice none 0 0,.int .i64 0,.int .i64 0,.int .i64 0,.int .i64 0,.int .i64 0,.slice none 0 0]=some G:=fun G hG=>by
  rw[ZS (rz G hG) 0 _]
  have:(G.setIfInBounds h.size (.cells (Ys jN 0 [.int .i64 0,.bool false,.bool false,.bool false,.bool false,.bool false,.slice none 0 0,.int .i64 0,.int .i64 0,.int .i64 0,.int .i64 0,.int .i64 0,.slice none 0 0]).toArray 33))=G:=Si (rz G hG)
  rw[if_pos ⟨by simp[jN],rfl⟩]
  exact congrArg some this
 have rr:∀G:Hp,Zg h1.size h1 G→rd G ⟨h.size,0,none⟩ 13=some [.int .i64 0,.bool false,.bool false,.bool false,.bool false,.bool false,.slice none 0 0,.int .i64 0,.int .i64 0,.int .i64 0,.int .i64 0,.int .i64 0,.slice none 0 0]:=fun G hG=>Zp (rz G hG) rfl
 have w0:=wz h1 (Zg.refl _ _)
 have r0:=rr h1 (Zg.refl _ _)
 have l0:=Za x2
 by_cases yH:100000<xs.length
 ·have pM:(xs.length:Int)>100000:=by omega
  have e2:Vp (Y0 xs)=1:=by unfold Vp;rw[rl,if_pos yH]
  simp -implicitDefEqProofs only[go_sem,↓reduceIte,e1,pM,w0,r0]
  refine⟨b1,?_⟩
  unfold H7
  rw[e2,if_neg (by decide)]
  rfl
 have pM:¬(xs.length:Int)>100000:=by omega
 have Zbr:xs.length≤100000:=by omega
 have e2:Vp (Y0 xs)=JV (Y0 xs):=by unfold Vp;rw[rl,if_neg yH]
 have FB:∀i (hi:i<xs.length),(Y0 xs)[i]'(by rw[rl];exact hi)=xs[i].1:=fun i hi=>by unfold Y0;simp
 simp -implicitDefEqProofs only[go_sem,↓reduceIte,e1,pM]
 refine VS.ZV (fun F g=>F 0=.slice p xs.length c∧F 2=.pointer (some ⟨h.size,0,none⟩)∧F 17=.slice p xs.length c∧F 18=.int .i64 xs.length∧Zg h1.size h1 g∧∃j:Nat,j≤xs.length∧F 19=.int .i64 j∧∀x∈(Y0 xs).take j,x.err=0)
  (fun F _=>xs.length-(vi (F 19)).toNat) rfl ⟨rfl,rfl,rfl,rfl,Zg.refl _ _,0,Nat.zero_le _,rfl,fun x hx=>by simp at hx⟩ ?_
 rintro F2 g2 ⟨f0,f2,f17,f18,b2,j,hj,f19,hz⟩
 by_cases ZD:j<xs.length
 ·have ZL:(j:Int)<xs.length:=by omega
  obtain⟨bb,oo,rfl,U6,OJ⟩:=YV (by intro e;rw[e]at ZD;simp at ZD)
  obtain⟨x,Sc⟩:=Zy (xs[j])
  have qU:x∈xs:=by rw[Sc];exact List.getElem_mem ZD
  have iv:=hx x qU
  obtain⟨pd,cd,Rs⟩:=iv.1.isSlice
  have r1:rd g2 ⟨bb,oo+j*5,none⟩ 5=some (JU x):=by rw[JD (b1.trans (b2.mono (by omega))) U6,Sc];exact OJ j ZD
  unfold JU VT at r1
  rw[Rs]at r1
  obtain⟨g3,ai⟩:=Zy (g2.push (.cells (VT x.1.k x.1.n x.1.a x.1.b (.slice pd x.1.data.length cd)).toArray 36):Hp)
  have e3:=ai.symm
  have y3:g3[g2.size]? = some (.cells (VT x.1.k x.1.n x.1.a x.1.b (.slice pd x.1.data.length cd)).toArray 36):=by rw[ai];exact Zb
  have r3:rd g3 ⟨g2.size,0,none⟩ 5=some (VT x.1.k x.1.n x.1.a x.1.b (.slice pd x.1.data.length cd)):=Zp y3 rfl
  unfold VT at e3 r3
  have b3:Zg h1.size h1 g3:=by rw[ai];exact b2.Yh b2.size _
  have ck:=IH T g3 x.1.k x.1.n x.1.a x.1.b pd x.1.data.length cd
  unfold L6 at ck
  simp -implicitDefEqProofs only[go_sem,↓reduceIte,f0,f2,f17,f18,f19,ZL,r1,e3,r3]
  refine ck.use ?_
  rintro _ g4 ⟨rfl,b4⟩
  have B4:Zg h1.size h1 g4:=b3.trans (b4.mono b3.size)
  have exr:x.1.err=QE x.1.k x.1.n x.1.a x.1.b x.1.data.length:=rfl
  rw[←exr]
  by_cases hex:x.1.err=0
  ·simp -implicitDefEqProofs only[go_sem,↓reduceIte,hex,f19]
   unfold Y4
   refine⟨⟨f0,f2,f17,f18,B4,j+1,ZD,rfl,fun y hy=>?_⟩,?_⟩
   ·rw[Yg _ j (by rw[rl];exact ZD),List.mem_append]at hy
    rcases hy with hy|hy
    ·exact hz y hy
    ·rw[FB j ZD,←Sc]at hy
     have:y=x.1:=by simpa using hy
     rw[this];exact hex
   ·simp only[vi,Zk,↓reduceIte,f19];omega
  ·have w4:=wz g4 B4
   have r4:=rr g4 B4
   have l4:=Za (rz g4 B4)
   simp -implicitDefEqProofs only[go_sem,↓reduceIte,hex,w4,r4,f2,l4]
   refine⟨b1.trans (B4.mono (by omega)),?_⟩
   unfold H7
   have:JV (Y0 xs)=x.1.err:=by
    have:=KQ (l:=Y0 xs) (j:=j) (by rw[rl];exact ZD) hz (by rw[FB j ZD,←Sc];exact hex)
    rw[this,FB j ZD,←Sc]
   rw[e2,this,if_neg hex]
   rfl
 have YJ:¬(j:Int)<xs.length:=by omega
 obtain rfl:j=xs.length:=by omega
 have Xb:∀x∈Y0 xs,x.err=0:=fun x hx=>hz x (by rw[List.take_of_length_le (by omega)];exact hx)
 have hzero:Vp (Y0 xs)=0:=by rw[e2];exact Sr Xb
 have inv:=inv Xb Zbr
 simp -implicitDefEqProofs only[go_sem,↓reduceIte,f18,f19,YJ]
 refine (pK T g2 Pe (Ss g2)).use ?_
 rintro _ g3 ⟨wb,Zo8,o3,qP,rfl,K3,A3⟩
 unfold Zo
 have bh2:Zg h.size h g2:=b1.trans (b2.mono (by omega))
 have kh2:Kp Vn Pe h Pe g2:=Kp.LM (Ss h) bh2 _
 obtain⟨yk,vI⟩:=Zy ((Y0 xs).map Raw.ac)
 have Zge:yk.length=xs.length:=by rw[vI,List.length_map,rl]
 have inv:∀j,j≤xs.length→WOk (RY (yk.take j)):=fun j hj=>by
  have:=inv j hj
  rw[vI,←List.map_take];exact this
 simp -implicitDefEqProofs only[go_sem,↓reduceIte,f0,f2]
 refine VS.ZV (fun F g=>F 2=.pointer (some ⟨h.size,0,none⟩)∧F 7=.pointer (some ⟨wb,0,none⟩)∧F 31=.slice p xs.length c∧F 32=.int .i64 xs.length∧∃(j:Nat) (o':Ow) (Z8:Nat→Nat) (Xu:WA),j≤xs.length∧F 33=.int .i64 j∧Kp Vn Pe g2 o' g∧Jf o' g wb Z8 Xu (RY (yk.take j)))
  (fun F _=>xs.length-(vi (F 33)).toNat) rfl ⟨f2,rfl,rfl,rfl,0,o3,Zo8,qP,Nat.zero_le _,rfl,K3,A3⟩ ?_
 clear f0 f2 f17 f18 f19 K3 A3
 rintro F4 g4 ⟨f2,f7,f31,f32,j,o4,Zo9,dh,hj,f33,K4,A4⟩
 by_cases ZD:j<xs.length
 ·have ZL:(j:Int)<xs.length:=by omega
  obtain⟨bb,oo,rfl,U6,OJ⟩:=YV (by intro e;rw[e]at ZD;simp at ZD)
  obtain⟨x,Sc⟩:=Zy (xs[j])
  have qU:x∈xs:=by rw[Sc];exact List.getElem_mem ZD
  have zY:x.1.err=0:=Xb x.1 (by unfold Y0;exact List.mem_map_of_mem qU)
  obtain⟨q1,q2,q3,q4,q5⟩:=KR zY
  have Kh4:Kp Vn Pe h o4 g4:=kh2.trans K4
  have iv:=(hx x qU).Zc Kh4
  obtain⟨pd,cd,Rs⟩:=iv.1.isSlice
  have r1:rd g4 ⟨bb,oo+j*5,none⟩ 5=some (JU x):=by rw[JD (Pf Kh4) U6,Sc];exact OJ j ZD
  unfold JU VT at r1
  rw[Rs]at r1 iv
  obtain⟨g5,pj⟩:=Zy (g4.push (.cells (VT x.1.k x.1.n x.1.a x.1.b (.slice pd x.1.data.length cd)).toArray 36):Hp)
  have e5:=pj.symm
  have k5:Kp Qz o4 g4 o4 g5:=by rw[pj];exact ZX K4.ZW _
  have y5:g5[g4.size]? = some (.cells (VT x.1.k x.1.n x.1.a x.1.b (.slice pd x.1.data.length cd)).toArray 36):=by rw[pj];exact Zb
  have r5:rd g5 ⟨g4.size,0,none⟩ 5=some (VT x.1.k x.1.n x.1.a x.1.b (.slice pd x.1.data.length cd)):=Zp y5 rfl
  unfold VT at e5 r5
  have en:((x.1.n.toNat:Nat):Int)=x.1.n:=by omega
  have ea:((x.1.a.toNat:Nat):Int)=x.1.a:=by omega
  have cd2:=Zbk T g5 o4 wb Zo9 dh (RY (yk.take j)) x.1.ac (.slice pd x.1.data.length cd) k5.ZW (A4.still k5) (inv j hj) q1 (by unfold Raw.ac;simp only;omega) (iv.Zc k5) (by unfold Raw.ac;simp only;omega) ((tb.Zc Kh4).Zc k5)
  unfold Zo VT Raw.ac at cd2
  simp only at cd2
  rw[en,ea]at cd2
  have YA:RY (yk.take (j+1))=act (RY (yk.take j)) ⟨x.1.k,x.1.n.toNat,x.1.a.toNat,x.1.b,x.1.data⟩:=by
   rw[Yg _ j (by rw[Zge];exact ZD)]
   unfold RY
   rw[List.foldl_append]
   have:yk[j]'(by rw[Zge];exact ZD)=⟨x.1.k,x.1.n.toNat,x.1.a.toNat,x.1.b,x.1.data⟩:=by
    simp only[vI,List.getElem_map,FB j ZD,←Sc];rfl
   rw[this];rfl
  simp -implicitDefEqProofs only[go_sem,↓reduceIte,f2,f7,f31,f32,f33,ZL,r1,e5,r5]
  refine cd2.use ?_
  rintro v' g6 ⟨o6,WA6,Zpb,k6,A6⟩
  simp -implicitDefEqProofs only[go_sem,↓reduceIte,f33]
  unfold Y4
  refine⟨⟨f2,f7,f31,f32,j+1,o6,Zpb,WA6,ZD,rfl,(K4.trans (Yc k5)).trans k6,by rw[YA];exact A6⟩,?_⟩
  simp only[vi,Zk,↓reduceIte,f33];omega
 have YJ:¬(j:Int)<xs.length:=by omega
 obtain rfl:j=xs.length:=by omega
 rw[List.take_of_length_le (by omega)]at A4
 have okW:=inv xs.length (Nat.le_refl _)
 rw[List.take_of_length_le (by omega)]at okW
 obtain⟨w,hw⟩:=Zy (RY yk)
 rw[←hw]at A4 okW
 have U4:=YZ A4.wd.ZF.2
 have U4o:=U4.out
 have Zpc:=Za A4.wd.ZF.2
 obtain⟨pf,cf,hpf,_⟩:=VR A4.wd.Zm
 obtain⟨pt,ct,jL,_⟩:=A4.wd.told.isSlice
 obtain⟨tv,htv⟩:=Zy (dh.told)
 rw[jL]at U4o htv
 obtain⟨kb,qx⟩:=Zy (g4.size)
 obtain⟨g5,pj⟩:=Zy (g4.push (.cells [.int .i64 0,.bool false,.bool false,.bool false,.bool false,.bool false,.slice none 0 0,.int .i64 (w.bad 0),.int .i64 (w.bad 1),.int .i64 (w.bad 2),.int .i64 (w.bad 3),.int .i64 (w.bad 4),.slice pt w.told.length ct].toArray 33):Hp)
 have e5:=pj.symm
 have y5:g5[kb]? = some (.cells [.int .i64 0,.bool false,.bool false,.bool false,.bool false,.bool false,.slice none 0 0,.int .i64 (w.bad 0),.int .i64 (w.bad 1),.int .i64 (w.bad 2),.int .i64 (w.bad 3),.int .i64 (w.bad 4),.slice pt w.told.length ct].toArray 33):=by rw[pj,qx];exact Zb
 have k5:Kp Qz o4 g4 o4 g5:=by rw[pj];exact ZX K4.ZW _
 obtain⟨g6,Rb⟩:=Zy (g5.setIfInBounds kb (.cells (Cf w 0 (.slice none 0 0) (.slice pt w.told.length ct)).toArray 33):Hp)
 have w6:Jx g5 ⟨kb,0,none⟩ (.int .i64 w.Zm.length)=some g6:=by rw[Yz y5 0 _,Rb];rfl
 have l5:=Za y5
 obtain⟨o6,ho6⟩:=Zy (Jz o4 kb (.log 101))
 have k6:Kp aJ o4 g4 o6 g6:=by rw[ho6,Rb];exact ((ZE k5).TY (by omega) l5 (.inr rfl)).BN (by omega) _
 have B6:QP o6 (.log 101) g6 kb (.cells (Cf w 0 (.slice none 0 0) (.slice pt w.told.length ct)).toArray 33):=⟨by rw[ho6];exact Y1,by rw[Rb];exact Zv y5⟩
 have A5:=A4.still k5
 have U5:=YZ A5.wd.ZF.2
 have U5f:=U5.Zm
 rw[hpf]at U5f
 have ax:=Za A5.wd.ZF.2
 have nof:∀t,aJ t→t.of≠none:=by rintro t (rfl|rfl) e<;>cases e
 have non:∀t (i:Nat),i<5→aJ t→t.of≠some i:=by
  rintro t i hi (rfl|rfl) e
  ·have:=Option.some.inj e;omega
  ·have:=Option.some.inj e;omega
 have W6:=A4.wd.Zc k6 nof
 obtain⟨bn,Zpe,cn,hn,kY,hbn,Zbs⟩:=Wi W6
 have U6n:=(YZ W6.ZF.2).nodes
 rw[hn]at U6n
 have Zgf:=Za W6.ZF.2
 simp -implicitDefEqProofs only[go_sem,↓reduceIte,f32,f33,YJ,f2,f7,U4o,Zpc,e5]
 rw[←qx]
 simp -implicitDefEqProofs only[go_sem,↓reduceIte,f7,U5f,ax,w6,l5,U6n,Zgf]
 refine VS.ZV (fun F g=>F 2=.pointer (some ⟨h.size,0,none⟩)∧F 10=.pointer (some ⟨kb,0,none⟩)∧F 54=.slice (some ⟨bn,Zpe,none⟩) 5 cn∧F 55=.int .i64 5∧∃(j:Nat) (o':Ow) (lv:Value) (vs:List Value),j≤5∧F 56=.int .i64 j∧Kp aJ o4 g4 o' g∧QP o' (.log 101) g kb (.cells (Cf w j lv (.slice pt w.told.length ct)).toArray 33) ∧
   YB o' (.log 100) 37 1 g lv j vs∧Cz (fun v l=>Im o' 5 g v l.length (Zz Qu.C l)∧∀b,ZO v=some b→g4.size≤b) vs (KT w j))
  (fun F _=>5-(vi (F 56)).toNat) rfl ⟨f2,rfl,rfl,rfl,0,o6,.slice none 0 0,[],by omega,rfl,k6,B6,YB.nil _ _ _ _ _,.nil⟩ ?_
 clear f2 f7 f31 f32 f33 B6 k6 w6 l5 U6n Zgf W6 Zbs hbn ho6 Rb y5 e5
 rintro F7 g7 ⟨f2,f10,f54,f55,j,o7,lv,vs,hj,f56,K7,B7,O7,L7⟩
 have W7:=A4.wd.Zc K7 nof
 by_cases ZD:j<5
 ·have ZL:(j:Int)<5:=by omega
  obtain⟨na,N4j⟩:=A4.nd j ZD
  have N7:=N4j.Zc K7 (fun t q=>non t j ZD q)
  obtain⟨bn',Zt9,cn',Rj,ZAX,hbn,Zbs⟩:=Wi W7
  rw[hn]at Rj
  simp only[Value.slice.injEq,Option.some.injEq,Addr.mk.injEq,true_and,and_true]at Rj
  obtain⟨⟨rfl,rfl⟩,rfl⟩:=Rj
  have ri:=Zbs j ZD
  unfold Zo at ri
  have P7:=Zx N7.ZF.2 N7.pt.store.len
  have P7u:=P7.up
  have Za7:=Za N7.ZF.2
  have l7:=Za B7.2
  obtain⟨g8,IQ⟩:=Zy (g7.setIfInBounds kb (.cells (Cf w (j+1) lv (.slice pt w.told.length ct)).toArray 33):Hp)
  have w8:Jx g7 ⟨kb,1+j,none⟩ (.bool (w.nodes j).up)=some g8:=by
   rw[Yz B7.2,if_pos ⟨by rw[dy];omega,rfl⟩,Zbq w j lv _ ZD,IQ]
  have k8:Kp aJ o7 g7 o7 g8:=by rw[IQ];exact (Kp.refl K7.ZW aJ).set B7.1 (.inr rfl) _
  have k8':Kp (fun t=>t=.log 101) o7 g7 o7 g8:=by rw[IQ];exact (Kp.refl K7.ZW (fun t=>t=.log 101)).set B7.1 rfl _
  have B8:QP o7 (.log 101) g8 kb (.cells (Cf w (j+1) lv (.slice pt w.told.length ct)).toArray 33):=⟨B7.1,by rw[IQ];exact Zv B7.2⟩
  have O8:=O7.Zc k8' (by intro e;cases e)
  have L8:=KU L7 (R':=fun v l=>Im o7 5 g8 v l.length (Zz Qu.C l)∧∀b,ZO v=some b→g4.size≤b) (fun v l q=>⟨q.1.Zc k8,q.2⟩)
  have K8:=K7.trans k8
  have N8:=N7.Zc k8 (fun t q=>non t j ZD q)
  have P8l:=(Zx N8.ZF.2 N8.pt.store.len).log
  obtain⟨pl,cl,Ll,_⟩:=YB.isSlice N8.pt.log
  have Ll:na.log=.slice pl (w.nodes j).log.length cl:=Ll
  rw[Ll]at P8l
  have Tl:=N8.pt.log.ts
  rw[Ll]at Tl
  have vg:=Za N8.ZF.2
  have l8:=Za B8.2
  obtain⟨plv,clv,rfl,_⟩:=O8.isSlice
  have r8:hc g8 ⟨kb,6,none⟩=some (.slice plv j clv):=Zh B8.2
  have cc:=aG T g8 (.slice pl (w.nodes j).log.length cl) (w.nodes j).log Tl (by have:=okW.log j ZD;omega)
  simp -implicitDefEqProofs only[go_sem,↓reduceIte,f2,f10,f54,f55,f56,ZL,ri,P7u,Za7,w8,l7,hbn]
  refine VS.z (g8.size) [8,10] (.p 0 (.q 1 (.p 2 (.p 3 (.p 4 (.q 5 (.s 6 (.s 7 (.w 8 (.p 9 (.w 10 .nil))))))))))) mixed (by kernel_rfl) ?_
  simp -implicitDefEqProofs only[go_sem,↓reduceIte,f2,f10,r8,P8l,vg,l8]
  refine cc.use ?_
  rintro v9 g9 ⟨o9,b9⟩
  have k9:Kp Qz o7 g8 o7 g9:=ZC K8.ZW b9
  have im9:Im o7 5 g9 v9 (w.nodes j).log.length (Zz Qu.C (w.nodes j).log):=Im.QZ o9.own (fun b hb=>K8.ZW b hb)
  have lo9:∀b,ZO v9=some b→g4.size≤b:=fun b hb=>Nat.le_trans K8.size (o9.own.ZF b hb)
  obtain⟨p9,c9,rfl⟩:=im9.isSlice
  obtain⟨g10,vJ⟩:=Zy (g9.push (.cells [.slice p9 (w.nodes j).log.length c9].toArray 37):Hp)
  have e10:=vJ.symm
  have gU:Kp Qz o7 g9 o7 g10:=by rw[vJ];exact ZX k9.ZW _
  have K10:Kp aJ o4 g4 o7 g10:=(K8.trans (ZE k9)).trans (ZE gU)
  have B10:=(B8.Zc k9 (fun q=>q)).Zc gU (fun q=>q)
  have O10:=(O8.Zc k9 (fun q=>q)).Zc gU (fun q=>q)
  have Zpg:=im9.Zc gU
  have x10:g10[g9.size]? = some (.cells [.slice p9 (w.nodes j).log.length c9].toArray 37):=by rw[vJ];exact Zb
  have src:Sl 1 g10 (.slice (some ⟨g9.size,0,none⟩) 1 1) 1 [.slice p9 (w.nodes j).log.length c9]:=⟨_,1,rfl,rfl,fun _=>⟨g9.size,0,rfl,fun i hi=>by
   rw[Zh x10,Ym,Nat.zero_add];exact List.getElem?_eq_getElem hi⟩⟩
  simp -implicitDefEqProofs only[go_sem,↓reduceIte,b9,e10]
  refine⟨by rw[vJ];exact b9.Yh b9.size _,?_⟩
  refine X0 (E:=37) (n:=1) (bytes:=24) (k:=1) ZdL Tryz.underlying29 ZkC ZkE rfl ZkD O10 K10.ZW src rfl (by omega) (by omega) ?_
  intro v11 o11 qN O11 jH _
  have jH:Kp (fun u=>u=.log 100) o7 g10 o11 qN:=jH
  obtain⟨p11,c11,rfl,_⟩:=O11.isSlice
  have B11:=B10.Zc jH (by intro e;cases e)
  have l11:=Za B11.2
  obtain⟨g12,EU⟩:=Zy (qN.setIfInBounds kb (.cells (Cf w (j+1) (.slice p11 (j+1) c11) (.slice pt w.told.length ct)).toArray 33):Hp)
  have w12:Jx qN ⟨kb,6,none⟩ (.slice p11 (j+1) c11)=some g12:=by
   rw[Yz B11.2,if_pos ⟨by rw[dy];omega,rfl⟩,vG,EU]
  have uJ:Kp (fun t=>t=.log 101) o11 qN o11 g12:=by rw[EU];exact (Kp.refl jH.ZW (fun t=>t=.log 101)).set B11.1 rfl _
  have B12:QP o11 (.log 101) g12 kb (.cells (Cf w (j+1) (.slice p11 (j+1) c11) (.slice pt w.told.length ct)).toArray 33):=⟨B11.1,by rw[EU];exact Zv B11.2⟩
  simp -implicitDefEqProofs only[go_sem,↓reduceIte,f10,w12,l11,f56]
  unfold Y4
  refine⟨⟨f2,f10,f54,f55,j+1,o11,.slice p11 (j+1) c11,vs++[.slice p9 (w.nodes j).log.length c9],ZD,rfl,(K10.trans (jH.mono fun t q=>.inl q)).trans (uJ.mono fun t q=>.inr q),B12,O11.Zc uJ (by intro e;cases e),?_⟩,?_⟩
  ·rw[Cg]
   refine D0 (KU L8 fun v l q=>⟨((((q.1.Zc k9).Zc gU).Zc jH).Zc uJ),q.2⟩) ⟨(Zpg.Zc jH).Zc uJ,lo9⟩
  ·simp only[vi,Zk,↓reduceIte,f56];omega
 have YJ:¬(j:Int)<5:=by omega
 obtain rfl:j=5:=by omega
 have bx7:ZN o7 g7 h.size (.cells jN.toArray 33):=ZN.Zc (ZN.Zc (o:=Pe) ⟨rfl,rz g2 b2⟩ K4) K7
 have rk:rd g7 ⟨kb,0,none⟩ 13=some (Cf w 5 lv (.slice pt w.told.length ct)):=Zp B7.2 rfl
 obtain⟨g8,IQ⟩:=Zy (g7.setIfInBounds h.size (.cells (Cf w 5 lv (.slice pt w.told.length ct)).toArray 33):Hp)
 have w8:wr g7 ⟨h.size,0,none⟩ (Cf w 5 lv (.slice pt w.told.length ct))=some g8:=by
  obtain⟨plv,clv,rfl,_⟩:=O7.isSlice
  rw[ZS bx7.2 0 _,IQ];rfl
 have l7:=Za bx7.2
 have r8:rd g8 ⟨h.size,0,none⟩ 13=some (Cf w 5 lv (.slice pt w.told.length ct)):=Zp (by rw[IQ];exact Zv bx7.2) rfl
 have K7a:Kp Vn Pe h o7 g7:=(kh2.trans K4).trans (Yc K7)
 have vl:vs.length=5:=by have:=O7.length;omega
 have bound:h.size<g4.size:=Nat.lt_of_lt_of_le (Za (rz g2 b2)) K4.size
 rw[show Cf w 5 lv (.slice pt w.told.length ct)=aH w lv (.slice pt w.told.length ct) from rfl]at rk w8 r8
 unfold aH at rk w8 r8
 simp -implicitDefEqProofs only[go_sem,↓reduceIte,f55,f56,YJ,f2,f10,rk,w8,l7,r8]
 refine⟨by rw[IQ];exact (Pf K7a).Zl (Nat.le_refl _) _,?_⟩
 unfold H7
 rw[hzero,if_pos rfl,←vI,←hw]
 refine⟨_,lv,.slice pt w.told.length ct,vs,rfl,fun G hG=>?_⟩
 have wt:=W7.told
 rw[jL]at wt
 have Yw:∀b,b<g7.size→b≠h.size→G[b]? = g8[b]? → G[b]? = g7[b]?:=fun b _ h2 e=>by rw[e,IQ,Array.getElem?_setIfInBounds,if_neg (fun e=>h2 e.symm)]
 have hs8:g8.size=g7.size:=by rw[IQ];simp
 have own:∀t,∀b,o7 b=some t→b<g7.size→G[b]? = g7[b]?:=fun t b q1 q2=>Yw b q2 (fun e=>by rw[e,bx7.1]at q1;cases q1) (hG b (Ch K7a q1) (by omega))
 refine⟨rfl,⟨by rw[iJ,vl];exact (dz O7 (own _)).sl⟩,?_,⟨(dz wt (own _)).sl⟩⟩
 refine KU (k:=KT w 5) L7 fun v l q=>⟨Zgd q.1 fun b hb ZD=>?_⟩
 have:=q.2 b hb
 exact Yw b ZD (by omega) (hG b (by omega) (by omega))
structure CmI (C:List Cm) (w v:Wd) (m:Nat):Prop where
 nd:∀i,i<5→JT C i (v.nodes i)
 Pq:∀i,i<5→∀l∈(v.nodes i).inbox,JS C l
 M7:v.Zm=w.Zm
 sum:Pd (fun i=>(v.nodes i).inbox.length)≤Pd (fun i=>(w.nodes i).inbox.length)+m
 wait:Pd (fun i=>(v.nodes i).waiting.length)=Pd (fun i=>(w.nodes i).waiting.length)
 told:v.told=w.told
 bad:v.bad=w.bad
theorem aK {C:List Cm} {w:Wd} {l:Y3} (h1:∀i,i<5→JT C i (w.nodes i)) (h2:∀i,i<5→∀l∈(w.nodes i).inbox,JS C l) (hl:JS C l):CmI C w (Ue w l) 1:=by
 have yi:l.to.toNat<5:=by have:=hl.to;omega
 unfold Ue
 split
 ·refine⟨fun i hi=>?_,fun i hi x hx=>?_,rfl,?_,?_,rfl,rfl⟩
  ·unfold Wd.set
   by_cases e:i=l.to.toNat
   ·simp only[if_pos e]
    rw[e]
    exact { h1 _ yi with }
   ·simp only[if_neg e];exact h1 i hi
  ·unfold Wd.set at hx
   by_cases e:i=l.to.toNat
   ·simp only[if_pos e]at hx
    rcases List.mem_append.1 hx with hx|hx
    ·exact h2 _ yi x hx
    ·have:x=l:=by simpa using hx
     rw[this];exact hl
   ·simp only[if_neg e]at hx;exact h2 i hi x hx
  ·have:=OM w l.to.toNat { w.nodes l.to.toNat with inbox:=(w.nodes l.to.toNat).inbox++[l] } (fun n=>n.inbox.length) yi
   unfold Wd.set
   simp only[List.length_append,List.length_singleton]at this ⊢
   omega
  ·have:=OM w l.to.toNat { w.nodes l.to.toNat with inbox:=(w.nodes l.to.toNat).inbox++[l] } (fun n=>n.waiting.length) yi
   unfold Wd.set
   simp only at this ⊢
   omega
 ·exact⟨h1,h2,rfl,by omega,rfl,rfl,rfl⟩
theorem vK {C:List Cm}:∀(ls:List Y3) (w:Wd),(∀i,i<5→JT C i (w.nodes i))→(∀i,i<5→∀l∈(w.nodes i).inbox,JS C l)→(∀l∈ls,JS C l)→CmI C w (ls.foldl Ue w) ls.length:=by
 intro ls
 induction ls with
 | nil=>intro w h1 h2 _;exact⟨h1,h2,rfl,by simp,rfl,rfl,rfl⟩
 | cons l ls ih=>
  intro w h1 h2 h3
  have a:=aK h1 h2 (h3 l (by simp))
  have b:=ih (Ue w l) a.nd a.Pq (fun x hx=>h3 x (by simp[hx]))
  refine⟨b.nd,b.Pq,by rw[List.foldl_cons,b.M7,a.M7],?_,by rw[List.foldl_cons,b.wait,a.wait],by rw[List.foldl_cons,b.told,a.told],by rw[List.foldl_cons,b.bad,a.bad]⟩
  have h4:=b.sum
  have h5:=a.sum
  simp only[List.foldl_cons,List.length_cons]
  omega
theorem WI.vL {C:List Cm} {k:Nat} {w u v:Wd} {m:Nat} (h:WI C k w) (c:CmI C u v m) (hu1:u.nodes=w.nodes) (hu2:∀l∈u.Zm,l∈w.Zm) (hu3:u.told=w.told) (hu4:u.bad=w.bad) (hm:u.Zm.length+m≤w.Zm.length+1):WI C (k+1) v:=by
 have hs:=c.sum
 have hw:=c.wait
 rw[hu1]at hs hw
 have h1:=h.room
 have h2:=h.wait
 refine⟨c.nd,c.Pq,fun l hl=>h.M7 l (hu2 l (by rw[←c.M7];exact hl)),?_,?_,fun i=>by rw[c.bad,hu4];have:=h.bad i;omega⟩
 ·rw[c.M7];omega
 ·rw[c.told,hu3,hw];omega
theorem Zbt {C:List Cm} {k:Nat} {w:Wd} (h:WI C k w) (at':Nat) (comes stays:Bool):WI C (k+1) (pick w at' comes stays):=by
 unfold pick
 split
 ·exact h.more
 ·rename_i l hl
  have iq:l∈w.Zm:=List.mem_of_getElem? hl
  have hll:=h.M7 l iq
  have el:(w.Zm.eraseIdx (at'%w.Zm.length)).length+1≤w.Zm.length+1:=by
   have:=List.length_eraseIdx_le w.Zm (at'%w.Zm.length);omega
  have el2:(w.Zm.eraseIdx (at'%w.Zm.length)).length≤w.Zm.length:=by omega
  cases comes with
  | true=>
   cases stays with
   | true=>exact h.vL (u:=w) (aK h.nd h.Pq hll) rfl (fun l q=>q) rfl rfl (by omega)
   | false=>exact h.vL (u:={ w with Zm:=w.Zm.eraseIdx (at'%w.Zm.length) }) (aK h.nd h.Pq hll) rfl (fun l q=>List.mem_of_mem_eraseIdx q) rfl rfl el
  | false=>
   cases stays with
   | true=>exact h.more
   | false=>exact h.vL (u:={ w with Zm:=w.Zm.eraseIdx (at'%w.Zm.length) }) (m:=0) ⟨h.nd,h.Pq,rfl,by simp,rfl,rfl,rfl⟩ rfl (fun l q=>List.mem_of_mem_eraseIdx q) rfl rfl (by simp only;omega)
def Pg (rc:List Nat):Cm:=⟨Xi ((Xp rc).drop 22) 0,Xi ((Xp rc).drop 22) 1,Xi ((Xp rc).drop 22) 2,Xi ((Xp rc).drop 22) 3,Xi ((Xp rc).drop 22) 4⟩
theorem pN (n:Nd) (x:Cm):(OC n x).waiting.length≤n.waiting.length+1:=by
 unfold OC;split
 ·omega
 ·simp
theorem pO {C:List Cm} {k:Nat} {w:Wd} (h:WI C k w) {i:Nat} (hi:i<5) {rc:List Nat} (hc:Pg rc∈C):WI C (k+1) (Tt w i rc):=by
 unfold Tt
 split
 ·split
  ·refine⟨h.nd,h.Pq,h.M7,Nat.le_trans h.room (Nat.mul_le_mul_right _ (Nat.le_succ k)),Nat.le_trans h.wait (Nat.le_succ k),fun j=>?_⟩
   have h1:=h.bad j
   have h2:=h.bad i
   simp only
   split<;>omega
  ·rename_i q
   have e:XX rc (w.nodes i).log.length=Pg rc:=by
    unfold XX Pg
    rw[if_pos (by simpa using q)]
   rw[e]
   split
   ·have hw:=h.wait
    refine⟨h.nd,h.Pq,h.M7,Nat.le_trans h.room (Nat.mul_le_mul_right _ (Nat.le_succ k)),by simp only[List.length_append,List.length_singleton];omega,fun j=>by have:=h.bad j;simp only;omega⟩
   ·rw[WV]
    have ha:=yj (h.nd i hi) hc
    have s1:(add (w.nodes i) (Pg rc)).inbox=(w.nodes i).inbox:=by unfold add;split<;>rfl
    have s2:(OC (add (w.nodes i) (Pg rc)) (Pg rc)).inbox=(w.nodes i).inbox:=by unfold OC;split<;>exact s1
    have s3:=pN (add (w.nodes i) (Pg rc)) (Pg rc)
    have s4:=(add_same (w.nodes i) (Pg rc)).1
    refine h.out hi ?_ (fun l hl=>by cases hl) (by simp only[s2];exact h.Pq i hi) (by simp only[s2];simp) (by simp only[List.length_nil];rw[s4]at s3;omega)
    unfold OC
    simp only
    split
    ·exact ha
    ·exact { ha with }
 ·exact h.more
theorem ym {C:List Cm} (hC:C.length≤100000) {k:Nat} {w:Wd} (h:WI C k w) (a:Ac) (hi:a.node<5) (hc:Pg a.data∈C):WI C (k+1) (act w a):=by
 have hn:=h.nd a.node hi
 have hb:=h.Pq a.node hi
 unfold act
 split
 ·exact pO h hi hc
 split
 ·obtain⟨l1,l2,l3⟩:=pI hn
  rw[WV]
  exact h.out hi l1 (fun l hl=>by cases hl) (by simp only[l2];exact hb) (by simp only[l2];simp) (by simp only[l3];simp)
 split
 ·obtain⟨s1,s2,s3,s4,s5⟩:=Zbi hi hC hn hb
  exact h.out hi s1 s2 s3 (by omega) (by omega)
 split
 ·exact Zbt h _ _ _
 split
 ·have c:=vK w.Zm { w with Zm:=[] } h.nd h.Pq h.M7
  exact h.vL c rfl (fun l hl=>by cases hl) rfl rfl (by simp)
 split
 ·obtain⟨c1,c2⟩:=iI hn a.Zc
  rw[WV]
  rcases c2 with⟨c2,c3⟩|c2
  ·exact h.out hi c1 (fun l hl=>by cases hl) (by simp only[c2];intro l hl;cases hl) (by simp only[c2];simp) (by simp only[c3];simp)
  ·exact h.out hi c1 (fun l hl=>by cases hl) (by simp only[c2];exact hb) (by simp only[c2];simp) (by simp only[c2];simp)
 ·obtain⟨c1,c2⟩:=H6 hn
  rw[WV]
  rcases c2 with⟨c2,c3⟩|c2
  ·exact h.out hi c1 (fun l hl=>by cases hl) (by simp only[c2];intro l hl;cases hl) (by simp only[c2];simp) (by simp only[c3];simp)
  ·exact h.out hi c1 (fun l hl=>by cases hl) (by simp only[c2];exact hb) (by simp only[c2];simp) (by simp only[c2];simp)
theorem KV (C:List Cm):WI C 0 Vj:=by
 refine⟨fun i hi=>M3 (by simp) IV.zero,(fun i hi l hl=>by cases hl),(fun l hl=>by cases hl),by simp[Vj,Pd,blank],by simp[Vj,Pd,blank],fun i=>by simp[Vj]⟩
theorem pP {C:List Cm} (hC:C.length≤100000):∀(l:List Ac) (k:Nat) (w:Wd),WI C k w→(∀a∈l,a.node<5∧Pg a.data∈C)→WI C (k+l.length) (l.foldl act w):=by
 intro l
 induction l with
 | nil=>intro k w h _;exact h
 | cons a l ih=>
  intro k w h hl
  have:=ih (k+1) (act w a) (ym hC h a (hl a (by simp)).1 (hl a (by simp)).2) (fun x hx=>hl x (by simp[hx]))
  rw[List.length_cons,show k+(l.length+1)=k+1+l.length by omega]
  exact this
theorem vM (xs:List (Raw × Value)) (hz:∀x∈Y0 xs,x.err=0) (hl:xs.length≤100000) (j:Nat) (hj:j≤xs.length):WOk (RY (((Y0 xs).take j).map Raw.ac)):=by
 obtain⟨C,hC⟩:=Zy ((Y0 xs).map fun x=>Pg x.data)
 have rl:(Y0 xs).length=xs.length:=by unfold Y0;simp
 have uC:C.length≤100000:=by rw[hC,List.length_map,rl];exact hl
 have:=pP uC (((Y0 xs).take j).map Raw.ac) 0 Vj (KV C) (fun a ha=>by
  obtain⟨x,hx,rfl⟩:=List.mem_map.1 ha
  have hx:=List.mem_of_mem_take hx
  obtain⟨_,h2,_,_,_⟩:=KR (hz x hx)
  refine⟨by unfold Raw.ac;simp only;omega,?_⟩
  rw[hC]
  exact List.mem_map.2 ⟨x,hx,rfl⟩)
 refine this.ok uC ?_
 rw[List.length_map,List.length_take]
 omega
theorem vN (T:World) (h:Hp) (v:Value) (xs:List (Raw × Value)) (hv:Ts JU 5 h v xs) (hx:∀x∈xs,Tv Pe h x.2 x.1.data) (tb:CI Pe h) (CD:xs.length≤4611686018427387904) :
  Zd Tryz.prog T 20 #[v] h fun v' h'=>Zg h.size h h'∧H7 h.size h' v' (Y0 xs):=
 vH T h v xs hv hx tb CD fun h1 h2 j hj=>vM xs h1 h2 j hj
def Qg (n m:Int):Int:=(if n<0 then 0-(n+1) else n)%m
theorem UR (n:Int) {m:Int} (h:0<m):0≤Qg n m∧Qg n m<m:=⟨Int.emod_nonneg _ (by omega),Int.emod_lt_of_pos _ h⟩
def i64 (n:Int):Prop:=-9223372036854775808≤n∧n<9223372036854775808
theorem US (T:World) (h:Hp) (n m:Int) (hn:i64 n) (hm:1≤m) (tY:m≤1000000) :
  Zd Tryz.prog T 27 #[.int .i64 n,.int .i64 m] h fun v' h'=>v'=.int .i64 (Qg n m)∧h'=h:=by
 unfold i64 at hn
 refine Zd.Zj (args:=[_,_]) Tryz.func27 rfl rfl rfl rfl ?_
 have hm0:¬m=0:=by omega
 by_cases q:n<0
 ·have e:Qg n m=(0-(n+1)).tmod m:=by unfold Qg;rw[if_pos q,Int.tmod_eq_emod_of_nonneg (by omega)]
  rw[e]
  simp -implicitDefEqProofs only[go_sem,↓reduceIte,q,hm0]
 ·have e:Qg n m=n.tmod m:=by unfold Qg;rw[if_neg q,Int.tmod_eq_emod_of_nonneg (by omega)]
  rw[e]
  simp -implicitDefEqProofs only[go_sem,↓reduceIte,q,hm0]
theorem X9 (T:World) (h:Hp) (n m:Int) (hn:i64 n) (hm:1≤m) (tY:m≤1000000) :
  Zd Tryz.prog T 16 #[.int .i64 n,.int .i64 m] h fun v' h'=>v'=.int .i64 (Qg n m)∧h'=h:=by
 refine Zd.Zj (args:=[_,_]) Tryz.func16 rfl rfl rfl rfl ?_
 simp -implicitDefEqProofs only[go_sem,↓reduceIte]
 refine (US T h n m hn hm tY).pure ?_
 simp -implicitDefEqProofs only[go_sem,↓reduceIte]
def Zgi (k c s n v:Int):List Value:=[.int .i64 k,.int .i64 c,.int .i64 s,.int .i64 n,.int .i64 v]
def cmW (k c s n v:Int):Cm:=⟨1+(Qg k 5).tdiv 2,Qg c 4,Qg s 6,Qg n 4,if 1+(Qg k 5).tdiv 2=1 then Qg v 1000 else 0⟩
theorem Ci (T:World) (h:Hp) (k c s n v:Int) (hk:i64 k) (hc:i64 c) (hs:i64 s) (hn:i64 n) (hv:i64 v) :
  Zd Tryz.prog T 51 #[.agg (Zgi k c s n v).toArray] h fun v' h'=>v'=.agg (cmW k c s n v).C.toArray∧Zg h.size h h':=by
 refine Zd.Zj (args:=[_]) Tryz.func51 rfl rfl rfl rfl ?_
 unfold Zgi
 simp -implicitDefEqProofs only[go_sem,↓reduceIte]
 refine VS.w (h.size+2) [16] (.q 0 (.q 1 (.q 2 (.q 3 (.q 4 (.q 5 (.q 6 (.q 7 (.q 8 (.q 9 (.q 10 (.q 11 (.q 12 (.q 13 (.q 14 (.s 15 (.w 16 .nil))))))))))))))))) mixed (by kernel_rfl) ?_
 simp -implicitDefEqProofs only[go_sem,↓reduceIte]
 refine JP (fun h=>US T h k 5 hk (by omega) (by omega)) ?_
 simp -implicitDefEqProofs only[go_sem,↓reduceIte]
 refine JP (fun h=>US T h c 4 hc (by omega) (by omega)) ?_
 simp -implicitDefEqProofs only[go_sem,↓reduceIte]
 refine JP (fun h=>US T h s 6 hs (by omega) (by omega)) ?_
 simp -implicitDefEqProofs only[go_sem,↓reduceIte]
 refine JP (fun h=>US T h n 4 hn (by omega) (by omega)) ?_
 have r1:=UR k (m:=5) (by omega)
 generalize Oy:Qg k 5=K at *
 have r2:0≤K.tdiv 2∧K.tdiv 2≤2:=by rw[Int.tdiv_eq_ediv_of_nonneg r1.1];omega
 unfold cmW
 rw[Oy]
 generalize K.tdiv 2=J at *
 by_cases q:1+J=1
 ·simp -implicitDefEqProofs only[go_sem,↓reduceIte,q]
  refine⟨Zg.push (by simp) _,(US T _ v 1000 hv (by omega) (by omega)).pure ?_⟩
  simp -implicitDefEqProofs only[go_sem,↓reduceIte,q]
  exact⟨rfl,(((Zg.refl _ _).add _).add _).add _⟩
 ·simp -implicitDefEqProofs only[go_sem,↓reduceIte,q]
  exact⟨Zg.push (by simp) _,rfl,(((Zg.refl _ _).add _).add _).add _⟩
structure Gr where
 k:Int
 a:Int
 b:Int
 c:Int
 d:Int
def Gr.C (g:Gr):List Value:=[.int .i64 g.k,.int .i64 g.a,.int .i64 g.b,.int .i64 g.c,.int .i64 g.d]
def Gr.ok (g:Gr):Prop:=(i64 g.k∧i64 g.a)∧i64 g.b∧i64 g.c∧i64 g.d
def CL (g:Gr):Cm:=cmW g.b g.c g.d g.a g.d
def iK (g:Gr):Int:=if Qg g.d 17=16 then ((CL g).c+1).tmod 4 else (CL g).c
def iL (g:Gr):Int:=if Qg g.d 17=15 then 0 else 7
def Zbu (n c r u:Int) (x:Cm):List Nat:=if Vh n c r u x.k x.c x.s x.n x.v=0 then gI n c r u x.k x.c x.s x.n x.v else []
def VU (g:Gr):List Nat:=Zbu (Qg g.a 1000) (iK g) (iL g) 60 (CL g)
def St (g:Gr):List Nat:=if Qg g.d 23=22∧30<(VU g).length then (VU g).take 30 else VU g
theorem FC (T:World) (h:Hp) (g:Gr) (hg:g.ok) (tk:Tk h) :
  Zd Tryz.prog T 31 #[.agg g.C.toArray] h fun v' h'=>Z0 h.size 5 h' v' (St g)∧Zg h.size h h':=by
 obtain⟨⟨wk,wa⟩,wb,wc,wd⟩:=hg
 refine Zd.Zj (args:=[_]) Tryz.func31 rfl rfl rfl rfl ?_
 unfold Gr.C
 have c1:∀h:Hp,Zd Tryz.prog T 51 #[.agg #[.int .i64 g.b,.int .i64 g.c,.int .i64 g.d,.int .i64 g.a,.int .i64 g.d]] h fun v' h'=>v'=.agg (CL g).C.toArray∧Zg h.size h h':=fun h=>Ci T h g.b g.c g.d g.a g.d wb wc wd wa wd
 obtain⟨h0,XR⟩:=Zy (h.push (.cells g.C.toArray 69):Hp)
 have y0:h0[h.size]? = some (.cells g.C.toArray 69):=by rw[XR];exact Zb
 have b0:Zg h.size h h0:=by rw[XR];exact (Zg.refl _ _).add _
 have e0:=XR.symm
 unfold Gr.C at e0 y0
 have s0:h0.size=h.size+1:=by rw[XR];simp
 have l0:=Za y0
 have u1:hc h0 ⟨h.size,1,none⟩=some (.int .i64 g.a):=Zh y0
 have u2:hc h0 ⟨h.size,2,none⟩=some (.int .i64 g.b):=Zh y0
 have u3:hc h0 ⟨h.size,3,none⟩=some (.int .i64 g.c):=Zh y0
 have u4:hc h0 ⟨h.size,4,none⟩=some (.int .i64 g.d):=Zh y0
 simp -implicitDefEqProofs only[go_sem,↓reduceIte,e0,u1,u2,u3,u4,l0]
 refine (c1 h0).use ?_
 rintro _ h1 ⟨rfl,b1⟩
 have B1:Zg h.size h h1:=b0.trans (b1.mono b0.size)
 have s1:=b1.size
 have y1:=b1.get l0 y0
 obtain⟨X,hX⟩:=Zy (CL g)
 rw[←hX]
 have hXc:0≤X.c∧X.c<4:=by rw[hX];exact UR g.c (by omega)
 obtain⟨h2,Wl⟩:=Zy ((h1.push (.cells X.C.toArray 49)).push (.cells [.int .i64 X.c,.int .i64 7,.int .i64 60].toArray 79):Hp)
 have e2:=Wl.symm
 unfold Qu.C Qt at e2 ⊢
 have y4:hc h2 ⟨h.size,4,none⟩=some (.int .i64 g.d):=by
  have:h2[h.size]? = some (.cells [.int .i64 g.k,.int .i64 g.a,.int .i64 g.b,.int .i64 g.c,.int .i64 g.d].toArray 69):=by
   rw[Wl,Zr (by simp;omega),Zr (by omega)];exact y1
  exact Zh this
 simp -implicitDefEqProofs only[go_sem,↓reduceIte,e2,y4]
 refine (X9 T h2 g.d 17 wd (by omega) (by omega)).pure ?_
 have s2:h2.size=h1.size+2:=by rw[Wl];simp
 have t2:h2[h1.size+1]? = some (.cells [.int .i64 X.c,.int .i64 7,.int .i64 60].toArray 79):=by rw[Wl,Array.getElem?_push,if_pos (by simp)]
 have x2:h2[h1.size]? = some (.cells X.C.toArray 49):=by rw[Wl,Zr (by simp),Zb]
 have b2:Zg h1.size h1 h2:=by rw[Wl];exact ((Zg.refl _ _).add _).add _
 have yg2:=b2.get (Za y1) y1
 have B2:Zg h.size h h2:=B1.trans (b2.mono B1.size)
 have Yw:h1.size+1≠h.size:=by have:=B1.size;omega
 have Dt:h1.size+1≠h1.size:=by omega
 clear e2 Wl e0 XR y4
 have three:∀tc tr:Int,tc=iK g→tr=iL g→∃g3:Hp,g3=h2.setIfInBounds (h1.size+1) (.cells [.int .i64 tc,.int .i64 tr,.int .i64 60].toArray 79)∧Zg h.size h g3∧g3.size=h2.size∧g3[h1.size+1]? = some (.cells [.int .i64 (iK g),.int .i64 (iL g),.int .i64 60].toArray 79)∧g3[h1.size]? = some (.cells X.C.toArray 49)∧g3[h.size]? = some (.cells [.int .i64 g.k,.int .i64 g.a,.int .i64 g.b,.int .i64 g.c,.int .i64 g.d].toArray 69):=fun tc tr e1 e2=>by
  refine⟨_,rfl,B2.Zl (by have:=B1.size;omega) _,by simp,?_,?_,?_⟩
  ·rw[←e1,←e2];exact Zv t2
  ·rw[Yi Dt];exact x2
  ·rw[Yi Yw];exact yg2
 have rc2:hc h2 ⟨h1.size+1,0,none⟩=some (.int .i64 X.c):=Zh t2
 have l2:=Za t2
 have h3c:∃g3:Hp,((Qg g.d 17=15∧Jx h2 ⟨h1.size+1,1,none⟩ (.int .i64 0)=some g3)∨(Qg g.d 17=16∧Jx h2 ⟨h1.size+1,0,none⟩ (.int .i64 ((X.c+1).tmod 4))=some g3)∨((¬Qg g.d 17=15∧¬Qg g.d 17=16)∧g3=h2))∧Zg h.size h g3∧g3.size=h2.size∧g3[h1.size+1]? = some (.cells [.int .i64 (iK g),.int .i64 (iL g),.int .i64 60].toArray 79)∧g3[h1.size]? = some (.cells X.C.toArray 49)∧g3[h.size]? = some (.cells [.int .i64 g.k,.int .i64 g.a,.int .i64 g.b,.int .i64 g.c,.int .i64 g.d].toArray 69):=by
  by_cases jM:Qg g.d 17=15
  ·obtain⟨g3,ai,z⟩:=three X.c 0 (by unfold iK;rw[if_neg (by omega),hX]) (by unfold iL;rw[if_pos jM])
   exact⟨g3,.inl ⟨jM,by rw[Yz t2 1 _,ai];rfl⟩,z⟩
  by_cases yn:Qg g.d 17=16
  ·obtain⟨g3,ai,z⟩:=three ((X.c+1).tmod 4) 7 (by unfold iK;rw[if_pos yn,hX]) (by unfold iL;rw[if_neg jM])
   exact⟨g3,.inr (.inl ⟨yn,by rw[Yz t2 0 _,ai];rfl⟩),z⟩
  ·obtain⟨g3,ai,z⟩:=three X.c 7 (by unfold iK;rw[if_neg yn,hX]) (by unfold iL;rw[if_neg jM])
   exact⟨g3,.inr (.inr ⟨⟨jM,yn⟩,by rw[ai];exact Si t2⟩),z⟩
 obtain⟨g3,KH,B3,s3,t3,x3,y3⟩:=h3c
 have ra:hc g3 ⟨h.size,1,none⟩=some (.int .i64 g.a):=Zh y3
 have rt:rd g3 ⟨h1.size+1,0,none⟩ 3=some [.int .i64 (iK g),.int .i64 (iL g),.int .i64 60]:=Zp t3 rfl
 have rx:rd g3 ⟨h1.size,0,none⟩ 5=some [.int .i64 X.k,.int .i64 X.c,.int .i64 X.s,.int .i64 X.n,.int .i64 X.v]:=Zp x3 rfl
 have ly:=Za y3
 have lt:=Za t3
 have lx:=Za x3
 have pk:=ur T g3 (Qg g.a 1000) (iK g) (iL g) 60 X.k X.c X.s X.n X.v (tk.Jy B3)
 unfold Tc Qt at pk
 clear three b2 t2 x2 yg2 b1 y1 b0 y0
 rcases KH with⟨jM,w3⟩|⟨yn,w3⟩|⟨⟨jM,yn⟩,e23⟩
 case' inl=>simp -implicitDefEqProofs only[go_sem,↓reduceIte,jM,w3]
 case' inr.inl=>have jM:¬(16:Int)=15:=by decide
 case' inr.inl=>simp -implicitDefEqProofs only[go_sem,↓reduceIte,yn,rc2,w3]
 case' inr.inr=>subst e23
 case' inr.inr=>simp -implicitDefEqProofs only[go_sem,↓reduceIte,jM,yn]
 all_goals
  refine VS.w (g3.size) [] (.q 0 (.q 1 (.q 2 (.q 3 (.q 4 (.s 5 (.q 6 (.q 7 (.q 8 (.q 9 (.q 10 .nil))))))))))) mixed (by kernel_rfl) ?_
  simp -implicitDefEqProofs only[go_sem,↓reduceIte,ra,rt,rx,ly,lt,lx]
  refine JP (fun h=>X9 T h g.a 1000 wa (by omega) (by omega)) ?_
  simp -implicitDefEqProofs only[go_sem,↓reduceIte,rt,rx,lt,lx]
  refine pk.use ?_
  rintro _ h4 ⟨⟨w,rfl,o4⟩,b4⟩
  have B4:=B3.trans (b4.mono B3.size)
  have eF:(if Vh (Qg g.a 1000) (iK g) (iL g) 60 X.k X.c X.s X.n X.v=0 then gI (Qg g.a 1000) (iK g) (iL g) 60 X.k X.c X.s X.n X.v else [])=VU g:=by unfold VU Zbu;rw[←hX]
  rw[eF]at o4
  have o4:=o4.mono B3.size
  obtain⟨p4,c4,rfl,_⟩:=o4.open
  have yd:hc h4 ⟨h.size,4,none⟩=some (.int .i64 g.d):=Zh (b4.get ly y3)
  simp -implicitDefEqProofs only[go_sem,↓reduceIte,yd,b4]
  refine (X9 T h4 g.d 23 wd (by omega) (by omega)).pure ?_
  by_cases q22:Qg g.d 23=22
  ·by_cases q30:30<(VU g).length
   ·have Zbv:((VU g).length:Int)>30:=by omega
    have eD:St g=(VU g).take 30:=by unfold St;rw[if_pos ⟨q22,q30⟩]
    simp -implicitDefEqProofs only[go_sem,↓reduceIte,q22,Zbv]
    have hf:=o4.own.S4 (m:=30) (by omega)
    rw[eD]
    refine⟨⟨?_,fun x hx=>o4.byte x (List.mem_of_mem_take hx)⟩,B4⟩
    rw[List.length_take,Nat.min_eq_left (by omega),List.map_take]
    exact hf
   ·have Zbv:¬((VU g).length:Int)>30:=by omega
    have eD:St g=VU g:=by unfold St;rw[if_neg (fun h=>q30 h.2)]
    simp -implicitDefEqProofs only[go_sem,↓reduceIte,q22,Zbv]
    rw[eD]
    exact⟨o4,B4⟩
  ·have eD:St g=VU g:=by unfold St;rw[if_neg (fun h=>q22 h.1)]
   simp -implicitDefEqProofs only[go_sem,↓reduceIte,q22]
   rw[eD]
   exact⟨o4,B4⟩
def Vq (g:Gr) (cr:Bool):Raw:=
 if Qg g.k 24<3 then ⟨1,Qg g.a 5,0,0,St g⟩ else if Qg g.k 24<5 then ⟨2,Qg g.a 5,0,0,[]⟩ else if Qg g.k 24<14 then ⟨3,Qg g.a 5,0,0,[]⟩
 else if Qg g.k 24=14 then ⟨4,0,Qg g.c 20,0,[]⟩ else if Qg g.k 24=15 then ⟨5,0,Qg g.c 20,0,[]⟩ else if Qg g.k 24=16 then ⟨6,0,Qg g.c 20,0,[]⟩
 else if Qg g.k 24=17∧cr=true then ⟨8,Qg g.a 5,0,Qg g.c 90,[]⟩ else if Qg g.k 24=18∧cr=true then ⟨9,Qg g.a 5,0,0,[]⟩ else ⟨7,0,0,0,[]⟩
theorem iM (T:World) (h:Hp) (g:Gr) (cr:Bool) (hg:g.ok) (tk:Tk h) :
  Zd Tryz.prog T 19 #[.agg g.C.toArray,.bool cr] h fun v' h'=>(∃w,v'=.agg (JU (Vq g cr,w)).toArray∧Z0 h.size 5 h' w (Vq g cr).data)∧Zg h.size h h':=by
 have pkc:=fun h tk=>FC T h g hg tk
 obtain⟨⟨wk,wa⟩,wb,wc,wd⟩:=hg
 refine Zd.Zj (args:=[_,_]) Tryz.func19 rfl rfl rfl rfl ?_
 unfold Gr.C at *
 obtain⟨h0,XR⟩:=Zy ((h.push (.cells [.int .i64 g.k,.int .i64 g.a,.int .i64 g.b,.int .i64 g.c,.int .i64 g.d].toArray 69)).push (.cells (VT 0 0 0 0 (.slice none 0 0)).toArray 36):Hp)
 have e0:=XR.symm
 have y0:h0[h.size]? = some (.cells [.int .i64 g.k,.int .i64 g.a,.int .i64 g.b,.int .i64 g.c,.int .i64 g.d].toArray 69):=by rw[XR,Zr (by simp),Zb]
 have z0:h0[h.size+1]? = some (.cells (VT 0 0 0 0 (.slice none 0 0)).toArray 36):=by rw[XR,Array.getElem?_push,if_pos (by simp)]
 have b0:Zg h.size h h0:=by rw[XR];exact ((Zg.refl _ _).add _).add _
 have u0:hc h0 ⟨h.size,0,none⟩=some (.int .i64 g.k):=Zh y0
 have u1:hc h0 ⟨h.size,1,none⟩=some (.int .i64 g.a):=Zh y0
 have u3:hc h0 ⟨h.size,3,none⟩=some (.int .i64 g.c):=Zh y0
 have ry:rd h0 ⟨h.size,0,none⟩ 5=some [.int .i64 g.k,.int .i64 g.a,.int .i64 g.b,.int .i64 g.c,.int .i64 g.d]:=Zp y0 rfl
 have ly:=Za y0
 have lz:=Za z0
 have rk:=UR g.k (m:=24) (by omega)
 unfold VT at e0
 simp -implicitDefEqProofs only[go_sem,↓reduceIte,e0,u1,u0]
 refine (X9 T h0 g.a 5 wa (by omega) (by omega)).pure ?_
 simp -implicitDefEqProofs only[go_sem,↓reduceIte,u0]
 refine (X9 T h0 g.k 24 wk (by omega) (by omega)).pure ?_
 obtain⟨A,hA⟩:=Zy (Qg g.a 5)
 rw[←hA]
 have fin:∀(g4:Hp) (k n a b:Int) (p:Option Addr) (m c:Nat) (l:List Nat),g4[h.size+1]? = some (.cells (VT 0 0 0 0 (.slice none 0 0)).toArray 36)→Zg h.size h g4→Z0 (h.size+2) 5 g4 (.slice p m c) l→Vq g cr=⟨k,n,a,b,l⟩ →
   wr g4 ⟨h.size+1,0,none⟩ [.int .i64 k,.int .i64 n,.int .i64 a,.int .i64 b,.slice p m c]=some (g4.setIfInBounds (h.size+1) (.cells (VT k n a b (.slice p m c)).toArray 36)) ∧
   rd (g4.setIfInBounds (h.size+1) (.cells (VT k n a b (.slice p m c)).toArray 36)) ⟨h.size+1,0,none⟩ 5=some [.int .i64 k,.int .i64 n,.int .i64 a,.int .i64 b,.slice p m c] ∧
   ((∃w,Value.agg [.int .i64 k,.int .i64 n,.int .i64 a,.int .i64 b,.slice p m c].toArray=.agg (JU (Vq g cr,w)).toArray∧Z0 h.size 5 (g4.setIfInBounds (h.size+1) (.cells (VT k n a b (.slice p m c)).toArray 36)) w (Vq g cr).data)∧Zg h.size h (g4.setIfInBounds (h.size+1) (.cells (VT k n a b (.slice p m c)).toArray 36))):=fun g4 k n a b p m c l y4 b4 o4 e=>by
  refine⟨by rw[ZS y4 0 _];rfl,Zp (Zv y4) rfl,⟨.slice p m c,by rw[e];rfl,?_⟩,b4.Zl (by omega) _⟩
  rw[e]
  exact (o4.ZT (by omega) _).mono (by omega)
 have nil:=fun B=>Z0.nil B 5 h0
 have c0:Qg g.k 24<3∨(¬Qg g.k 24<3∧Qg g.k 24<5)∨(¬Qg g.k 24<5∧Qg g.k 24<14)∨Qg g.k 24=14∨Qg g.k 24=15∨Qg g.k 24=16∨Qg g.k 24=17∨Qg g.k 24=18∨18<Qg g.k 24:=by omega
 obtain⟨K,hK⟩:=Zy (Qg g.k 24)
 rw[←hK]at c0 rk ⊢
 rcases c0 with c|⟨c,c'⟩|⟨c,c'⟩|c|c|c|c|c|c
 ·simp -implicitDefEqProofs only[go_sem,↓reduceIte,c,ry,ly]
  refine (pkc h0 (tk.Jy b0)).use ?_
  rintro w g4 ⟨o4,b4⟩
  obtain⟨p,cp,rfl,_⟩:=o4.open
  have s0:h0.size=h.size+2:=by rw[XR];simp
  obtain⟨f1,f2,f3⟩:=fin g4 1 A 0 0 p _ cp (St g) (b4.get lz z0) (b0.trans (b4.mono b0.size)) (o4.mono (by omega)) (by unfold Vq;rw[←hK,if_pos c,←hA])
  have l4:=Za (b4.get lz z0)
  simp -implicitDefEqProofs only[go_sem,↓reduceIte,f1,f2,l4]
  exact f3
 ·obtain⟨f1,f2,f3⟩:=fin h0 2 A 0 0 none 0 0 [] z0 b0 (nil _) (by unfold Vq;rw[←hK];rw[if_neg c,if_pos c',←hA])
  simp -implicitDefEqProofs only[go_sem,↓reduceIte,c,c',f1,f2,lz]
  exact f3
 ·obtain⟨f1,f2,f3⟩:=fin h0 3 A 0 0 none 0 0 [] z0 b0 (nil _) (by unfold Vq;rw[←hK];rw[if_neg (by omega),if_neg c,if_pos c',←hA])
  have c2:¬K<3:=by omega
  simp -implicitDefEqProofs only[go_sem,↓reduceIte,c,c',c2,f1,f2,lz]
  exact f3
 ·obtain⟨f1,f2,f3⟩:=fin h0 4 0 (Qg g.c 20) 0 none 0 0 [] z0 b0 (nil _) (by unfold Vq;rw[←hK];rw[c];rfl)
  have t14:¬(14:Int)<3:=by decide
  simp -implicitDefEqProofs only[go_sem,↓reduceIte,c,u3]
  refine (X9 T h0 g.c 20 wc (by omega) (by omega)).pure ?_
  simp -implicitDefEqProofs only[go_sem,↓reduceIte,f1,f2,lz]
  exact f3
 ·obtain⟨f1,f2,f3⟩:=fin h0 5 0 (Qg g.c 20) 0 none 0 0 [] z0 b0 (nil _) (by unfold Vq;rw[←hK];rw[c];rfl)
  have t15:¬(15:Int)<3:=by decide
  simp -implicitDefEqProofs only[go_sem,↓reduceIte,c,u3]
  refine (X9 T h0 g.c 20 wc (by omega) (by omega)).pure ?_
  simp -implicitDefEqProofs only[go_sem,↓reduceIte,f1,f2,lz]
  exact f3
 ·obtain⟨f1,f2,f3⟩:=fin h0 6 0 (Qg g.c 20) 0 none 0 0 [] z0 b0 (nil _) (by unfold Vq;rw[←hK];rw[c];rfl)
  have t16:¬(16:Int)<3:=by decide
  simp -implicitDefEqProofs only[go_sem,↓reduceIte,c,u3]
  refine (X9 T h0 g.c 20 wc (by omega) (by omega)).pure ?_
  simp -implicitDefEqProofs only[go_sem,↓reduceIte,f1,f2,lz]
  exact f3
 ·cases cr with
  | true=>
   obtain⟨f1,f2,f3⟩:=fin h0 8 A 0 (Qg g.c 90) none 0 0 [] z0 b0 (nil _) (by unfold Vq;rw[←hK,c,←hA];rfl)
   simp -implicitDefEqProofs only[go_sem,↓reduceIte,c,u3]
   refine (X9 T h0 g.c 90 wc (by omega) (by omega)).pure ?_
   simp -implicitDefEqProofs only[go_sem,↓reduceIte,f1,f2,lz]
   exact f3
  | false=>
   obtain⟨f1,f2,f3⟩:=fin h0 7 0 0 0 none 0 0 [] z0 b0 (nil _) (by unfold Vq;rw[←hK,c];rfl)
   simp -implicitDefEqProofs only[go_sem,↓reduceIte,c,f1,f2,lz]
   exact f3
 ·cases cr with
  | true=>
   obtain⟨f1,f2,f3⟩:=fin h0 9 A 0 0 none 0 0 [] z0 b0 (nil _) (by unfold Vq;rw[←hK,c,←hA];rfl)
   simp -implicitDefEqProofs only[go_sem,↓reduceIte,c,f1,f2,lz]
   exact f3
  | false=>
   obtain⟨f1,f2,f3⟩:=fin h0 7 0 0 0 none 0 0 [] z0 b0 (nil _) (by unfold Vq;rw[←hK,c];rfl)
   simp -implicitDefEqProofs only[go_sem,↓reduceIte,c,f1,f2,lz]
   exact f3
 ·obtain⟨f1,f2,f3⟩:=fin h0 7 0 0 0 none 0 0 [] z0 b0 (nil _) (by unfold Vq;rw[←hK,if_neg (by omega),if_neg (by omega),if_neg (by omega),if_neg (by omega),if_neg (by omega),if_neg (by omega),if_neg (by omega),if_neg (by omega)])
  have c3:¬K<3:=by omega
  have c5:¬K<5:=by omega
  have c14:¬K<14:=by omega
  have d14:¬K=14:=by omega
  have d15:¬K=15:=by omega
  have d16:¬K=16:=by omega
  have d17:¬K=17:=by omega
  have d18:¬K=18:=by omega
  simp -implicitDefEqProofs only[go_sem,↓reduceIte,c3,c5,c14,d14,d15,d16,d17,d18,f1,f2,lz]
  exact f3
def iN:Raw:=⟨7,0,0,0,[]⟩
def Su (n:Nat) (a:Raw):Raw:=if a.k=1∧6<n+1 then iN else a
def S3 (cr:Bool) (st:Nat × List Raw) (g:Gr):Nat × List Raw:=(if (Vq g cr).k=1 then st.1+1 else st.1,st.2++[Su st.1 (Vq g cr)])
def Sv (gs:List Gr) (cr:Bool) (j:Nat):Nat × List Raw:=(gs.take j).foldl (S3 cr) (0,[])
def yo (gs:List Gr) (Xr:Nat) (cr:Bool):List Raw:=(Sv gs cr Xr).2
theorem H9 (gs:List Gr) (cr:Bool) (j:Nat) (hj:j<gs.length):Sv gs cr (j+1)=S3 cr (Sv gs cr j) gs[j]:=by
 unfold Sv
 rw[Yg gs j hj,List.foldl_append]
 rfl
theorem ON (gs:List Gr) (cr:Bool):∀j,j≤gs.length→(Sv gs cr j).2.length=j∧(Sv gs cr j).1≤j:=by
 intro j
 induction j with
 | zero=>intro _;exact⟨rfl,Nat.le_refl _⟩
 | succ j ih=>
  intro h
  obtain⟨h1,h2⟩:=ih (by omega)
  rw[H9 gs cr j (by omega)]
  unfold S3
  simp only[List.length_append,List.length_singleton]
  refine⟨by omega,?_⟩
  split<;>omega
theorem Cj (gs:List Gr) (cr:Bool) (j:Nat) (h:gs.length≤j):Sv gs cr j=Sv gs cr gs.length:=by
 unfold Sv
 rw[List.take_of_length_le h,List.take_of_length_le (Nat.le_refl _)]
theorem iO {B:Nat} {h:Hp} {v:Value} {l:List Nat} {o:Ow} (s:Z0 B 5 h v l) (hf:∀b,B≤b→o b=none):Tv o h v l:=⟨Im.QZ s.own hf,s.byte⟩
set_option maxHeartbeats 4000000 in
theorem aL (T:World) (h:Hp) (v:Value) (gs:List Gr) (Xr:Nat) (cr:Bool) (hv:Ts Gr.C 5 h v gs) (hg:∀g∈gs,g.ok) (hm:Xr≤1000000) (tk:Tk h) :
  Zd Tryz.prog T 10 #[v,.int .i64 Xr,.bool cr] h fun v' h'=>Zg h.size h h'∧Ta v'∧∃ys,Y0 ys=yo gs Xr cr∧Ts JU 5 h' v' ys∧(∀y∈ys,Tv Pe h' y.2 y.1.data)∧(∀y∈ys,∀b,ZO y.2=some b→h.size≤b)∧∀b,ZO v'=some b→h.size≤b∧b<h'.size:=by
 obtain⟨p,c,rfl,YV⟩:=hv.open (n:=5) (enc:=Gr.C) (fun _=>rfl) (by decide)
 refine Zd.Zj (args:=[_,_,_]) Tryz.func10 rfl rfl rfl rfl ?_
 simp -implicitDefEqProofs only[go_sem,↓reduceIte]
 refine VS.ZV (fun F g=>(F 0=.slice p gs.length c∧F 1=.int .i64 Xr∧F 2=.bool cr)∧∃(j:Nat) (o:Ow) (ys:List (Raw × Value)),j≤gs.length∧j≤Xr∧F 9=.int .i64 j∧F 8=.int .i64 ((Sv gs cr j).1:Nat)∧Kp (fun t=>t=.log 100) Pe h o g∧Y0 ys=(Sv gs cr j).2∧YB o (.log 100) 36 5 g (F 7) ys.length (Zz JU ys)∧(∀y∈ys,Tv o g y.2 y.1.data)∧∀y∈ys,∀b,ZO y.2=some b→h.size≤b)
  (fun F _=>gs.length-(vi (F 9)).toNat) rfl ⟨⟨rfl,rfl,rfl⟩,0,Pe,[],Nat.zero_le _,Nat.zero_le _,rfl,rfl,Kp.refl (Ss h) _,rfl,YB.nil _ _ _ _ _,(fun y hy=>by cases hy),fun y hy=>by cases hy⟩ ?_
 rintro F2 g2 ⟨⟨f0,f1,f2⟩,j,o2,ys,hj,hjm,f9,f8,K2,hr,O2,I2,N2⟩
 have yl:ys.length=j:=by
  have:=congrArg List.length hr
  unfold Y0 at this
  rw[List.length_map,(ON gs cr j hj).1]at this
  exact this
 obtain⟨p3,c3,f3,hc3⟩:=O2.isSlice
 by_cases ZD:j<gs.length∧j<Xr
 ·obtain⟨ZD,Zpk⟩:=ZD
  have ZL:(j:Int)<gs.length:=by omega
  have Zgk:(j:Int)<Xr:=by omega
  obtain⟨bb,oo,rfl,U6,OJ⟩:=YV (by intro e;rw[e]at ZD;simp at ZD)
  obtain⟨g,xP⟩:=Zy (gs[j])
  have hgm:g∈gs:=by rw[xP];exact List.getElem_mem ZD
  have r1:rd g2 ⟨bb,oo+j*5,none⟩ 5=some g.C:=by rw[JD (Pf K2) U6,xP];exact (OJ j ZD).rd (by simp[Gr.C]) rfl
  have ca:=iM T g2 g cr (hg g hgm) (tk.Jy (Pf K2))
  unfold Gr.C at ca r1
  simp -implicitDefEqProofs only[go_sem,↓reduceIte,f0,f1,f2,f9,ZL,Zgk,r1]
  refine ca.use ?_
  rintro vv g3 ⟨⟨w,hvv,o3⟩,b3⟩
  obtain⟨a,ha⟩:=Zy (Vq g cr)
  rw[←ha]at o3 hvv
  obtain⟨p4,c4,rfl,_⟩:=o3.open
  have hvv:vv=.agg #[.int .i64 a.k,.int .i64 a.n,.int .i64 a.a,.int .i64 a.b,.slice p4 a.data.length c4]:=by rw[hvv];rfl
  subst hvv
  obtain⟨n,hn⟩:=Zy ((Sv gs cr j).1)
  rw[←hn]at f8
  have hnj:n≤j:=by rw[hn];exact (ON gs cr j hj).2
  obtain⟨g4,OI⟩:=Zy (g3.push (.cells (VT a.k a.n a.a a.b (.slice p4 a.data.length c4)).toArray 36):Hp)
  have e4:=OI.symm
  have y4:g4[g3.size]? = some (.cells (VT a.k a.n a.a a.b (.slice p4 a.data.length c4)).toArray 36):=by rw[OI];exact Zb
  have K3:Kp Qz o2 g2 o2 g3:=ZC K2.ZW b3
  have k4:Kp Qz o2 g3 o2 g4:=by rw[OI];exact ZX K3.ZW _
  have K4:=K3.trans k4
  have i3:Tv o2 g3 (.slice p4 a.data.length c4) a.data:=iO o3 (fun b hb=>K2.ZW b hb)
  have i4:=i3.Zc k4
  have rk:hc g4 ⟨g3.size,0,none⟩=some (.int .i64 a.k):=Zh y4
  have l4:=Za y4
  have hs3:=b3.size
  have h5c:∃(g5:Hp) (q:Option Addr) (cq:Nat),((¬a.k=1∧g5=g4)∨((a.k=1∧¬(n:Int)+1>6)∧g5=g4)∨((a.k=1∧(n:Int)+1>6)∧wr g4 ⟨g3.size,0,none⟩ [.int .i64 7,.int .i64 0,.int .i64 0,.int .i64 0,.slice none 0 0]=some g5)) ∧
    g5[g3.size]? = some (.cells (VT (Su n a).k (Su n a).n (Su n a).a (Su n a).b (.slice q (Su n a).data.length cq)).toArray 36)∧Kp Qz o2 g2 o2 g5∧Tv o2 g5 (.slice q (Su n a).data.length cq) (Su n a).data∧g3.size<g5.size∧∀b,ZO (.slice q (Su n a).data.length cq)=some b→h.size≤b:=by
   have Zgl:∀b,ZO (.slice p4 a.data.length c4)=some b→h.size≤b:=fun b hb=>Nat.le_trans K2.size (o3.own.ZF b hb)
   by_cases q1:a.k=1
   ·by_cases q6:6<n+1
    ·have eX:Su n a=iN:=by unfold Su;rw[if_pos ⟨q1,q6⟩]
     rw[eX]
     refine⟨_,none,0,.inr (.inr ⟨⟨q1,by omega⟩,by rw[ZS y4 0 _];rfl⟩),Zv y4,K4.BN (by omega) _,⟨Im.nil _ 1 _ none,fun x hx=>by cases hx⟩,by simpa using l4,fun b hb=>by simp[ZO]at hb⟩
    ·have eX:Su n a=a:=by unfold Su;rw[if_neg (fun h=>q6 h.2)]
     rw[eX]
     exact⟨g4,p4,c4,.inr (.inl ⟨⟨q1,by omega⟩,rfl⟩),y4,K4,i4,l4,Zgl⟩
   ·have eX:Su n a=a:=by unfold Su;rw[if_neg (fun h=>q1 h.1)]
    rw[eX]
    exact⟨g4,p4,c4,.inl ⟨q1,rfl⟩,y4,K4,i4,l4,Zgl⟩
  obtain⟨g5,q,cq,KH,y5,K5,i5,l5,n5⟩:=h5c
  obtain⟨X,hX⟩:=Zy (Su n a)
  rw[←hX]at y5 i5 n5
  have eN:Sv gs cr (j+1)=(if a.k=1 then n+1 else n,(Sv gs cr j).2++[X]):=by rw[H9 gs cr j ZD,←xP];unfold S3;rw[←ha,←hn,hX]
  have r5:rd g5 ⟨g3.size,0,none⟩ 5=some (VT X.k X.n X.a X.b (.slice q X.data.length cq)):=Zp y5 rfl
  obtain⟨g6,Rb⟩:=Zy (g5.push (.cells (VT X.k X.n X.a X.b (.slice q X.data.length cq)).toArray 36):Hp)
  have e6:=Rb.symm
  have k6:Kp Qz o2 g5 o2 g6:=by rw[Rb];exact ZX K5.ZW _
  have x6:g6[g5.size]? = some (.cells (VT X.k X.n X.a X.b (.slice q X.data.length cq)).toArray 36):=by rw[Rb];exact Zb
  have src:Sl 5 g6 (.slice (some ⟨g5.size,0,none⟩) 1 1) 1 (VT X.k X.n X.a X.b (.slice q X.data.length cq)):=⟨_,1,rfl,rfl,fun _=>⟨g5.size,0,rfl,fun i hi=>by
   rw[Zh x6,Ym,Nat.zero_add];exact List.getElem?_eq_getElem hi⟩⟩
  have O6:=(O2.Zc K5 (fun q=>q)).Zc k6 (fun q=>q)
  rw[f3]at O6
  have stp:∀v7 o7 (g7:Hp),YB o7 (.log 100) 36 5 g7 v7 (ys.length+1) (Zz JU ys++VT X.k X.n X.a X.b (.slice q X.data.length cq))→Kp (fun u=>u=.log 100) o2 g6 o7 g7 →
    Kp (fun t=>t=.log 100) Pe h o7 g7∧Y0 (ys++[(X,.slice q X.data.length cq)])=(Sv gs cr (j+1)).2∧YB o7 (.log 100) 36 5 g7 v7 (ys++[(X,Value.slice q X.data.length cq)]).length (Zz JU (ys++[(X,.slice q X.data.length cq)]))∧(∀y∈ys++[(X,Value.slice q X.data.length cq)],Tv o7 g7 y.2 y.1.data)∧∀y∈ys++[(X,Value.slice q X.data.length cq)],∀b,ZO y.2=some b→h.size≤b:=fun v7 o7 g7 O7 k7=>by
   refine⟨((K2.trans (ZE K5)).trans (ZE k6)).trans k7,?_,?_,fun y hy=>?_,fun y hy=>?_⟩
   ·rw[eN,←hr]
    unfold Y0
    simp only[List.map_append,List.map_cons,List.map_nil]
   ·have e:Zz JU (ys++[(X,.slice q X.data.length cq)])=Zz JU ys++VT X.k X.n X.a X.b (.slice q X.data.length cq):=by rw[Ye,Ud];rfl
    rw[e,List.length_append]
    exact O7
   ·rcases List.mem_append.1 hy with hy|hy
    ·exact (((I2 y hy).Zc K5).Zc k6).Zc k7
    ·rw[List.mem_singleton.1 hy]
     exact (i5.Zc k6).Zc k7
   ·rcases List.mem_append.1 hy with hy|hy
    ·exact N2 y hy
    ·rw[List.mem_singleton.1 hy];exact n5
  unfold VT at e4 r5 e6
  rcases KH with⟨q1,e54⟩|⟨⟨q1,q6⟩,e54⟩|⟨⟨q1,q6⟩,w5⟩
  case' inl=>subst e54
  case' inl=>simp -implicitDefEqProofs only[go_sem,↓reduceIte,e4,rk,q1,r5,l5,e6,f3]
  case' inr.inl=>subst e54
  case' inr.inl=>have q1t:=eq_true q1
  case' inr.inl=>simp -implicitDefEqProofs only[go_sem,↓reduceIte,e4,rk,q1t,f8,q6,r5,l5,e6,f3]
  case' inr.inr=>have q1t:=eq_true q1
  case' inr.inr=>simp -implicitDefEqProofs only[go_sem,↓reduceIte,e4,rk,q1t,f8,q6,w5,l4,r5,l5,e6,f3]
  all_goals
   refine X0 (E:=36) (n:=5) (bytes:=56) (k:=1) mf Tryz.underlying23 zC zE rfl zD O6 k6.ZW src rfl (by omega) (by omega) ?_
   intro v7 o7 g7 O7 k7 _
   have k7:Kp (fun u=>u=.log 100) o2 g6 o7 g7:=k7
   obtain⟨z1,z2,z3,z4,z5⟩:=stp v7 o7 g7 O7 k7
   simp -implicitDefEqProofs only[go_sem,↓reduceIte,f9]
   unfold Y4
   refine⟨⟨⟨f0,f1,f2⟩,j+1,o7,ys++[(X,Value.slice q X.data.length cq)],ZD,Zpk,rfl,?_,z1,z2,?_,z4,z5⟩,?_⟩
   ·rw[eN]
    first
    | (rw[if_pos q1];rfl)
    | (rw[if_neg q1];exact f8)
   ·exact z3
   ·simp only[vi,Zk,↓reduceIte,f9];omega
 have e9:yo gs Xr cr=(Sv gs cr j).2:=by
  unfold yo
  by_cases q:j<gs.length
  ·rw[show Xr=j by omega]
  ·rw[show j=gs.length by omega,Cj gs cr Xr (by omega)]
 have fin:∀b,ZO (F2 7)=some b→h.size≤b∧b<g2.size:=fun b hb=>by
  have ho:=pL O2 hb
  refine⟨Ch K2 ho,?_⟩
  refine Classical.byContradiction fun q=>?_
  rw[K2.ZW b (by omega)]at ho;cases ho
 by_cases O3:j<gs.length
 ·have ZL:(j:Int)<gs.length:=by omega
  have YJ:¬(j:Int)<Xr:=by omega
  simp -implicitDefEqProofs only[go_sem,↓reduceIte,f0,f1,f9,ZL,YJ]
  exact⟨Pf K2,by rw[f3];exact hc3,ys,by rw[hr,e9],⟨O2.sl⟩,(fun y hy=>⟨⟨(I2 y hy).1.sl,(I2 y hy).1.fits,fun b hb=>⟨((I2 y hy).1.free b hb).1,rfl⟩⟩,(I2 y hy).2⟩),N2,fin⟩
 ·have ZL:¬(j:Int)<gs.length:=by omega
  simp -implicitDefEqProofs only[go_sem,↓reduceIte,f0,f1,f9,ZL]
  exact⟨Pf K2,by rw[f3];exact hc3,ys,by rw[hr,e9],⟨O2.sl⟩,(fun y hy=>⟨⟨(I2 y hy).1.sl,(I2 y hy).1.fits,fun b hb=>⟨((I2 y hy).1.free b hb).1,rfl⟩⟩,(I2 y hy).2⟩),N2,fin⟩
theorem iP (T:World) (h:Hp) (v:Value) (gs:List Gr) (Xr:Nat) (cr:Bool) (hv:Ts Gr.C 5 h v gs) (hg:∀g∈gs,g.ok) (hm:Xr≤1000000) (tk:Tk h) :
  Zd Tryz.prog T 10 #[v,.int .i64 Xr,.bool cr] h fun v' h'=>Zg h.size h h'∧Ta v'∧∃ys,Y0 ys=yo gs Xr cr∧Ts JU 5 h' v' ys∧∀y∈ys,Tv Pe h' y.2 y.1.data:=
 (aL T h v gs Xr cr hv hg hm tk).mono fun _ _ ⟨q1,q2,ys,q3,q4,q5,_,_⟩=>⟨q1,q2,ys,q3,q4,q5⟩
end Go.Proofs.YtpomedigibbeeaaGreatDoor

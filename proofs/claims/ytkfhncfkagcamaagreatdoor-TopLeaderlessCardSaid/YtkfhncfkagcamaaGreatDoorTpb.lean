/- The pieces of an act: setting a node, what a tape's records make, all letters come. -/
import Derived.Test.YtkfhncfkagcamaaGreatDoorMdg
import Derived.Test.YtkfhncfkagcamaaGreatDoorLchks
import Derived.Test.YtkfhncfkagcamaaGreatDoorPak
namespace Go.Proofs.YtkfhncfkagcamaaGreatDoor
open Go Go.V
set_option linter.unusedSimpArgs false
set_option linter.unusedVariables false
set_option maxRecDepth 100000
theorem zk {l:List Nat} {a r:Ww} {k j:Nat} (h:Rec l a k r j):∀f,l.length+1≤k+f→LY l f a k=(r,j):=by
 induction h with
 | stop e=>
  intro f hf
  cases f with
  | zero=>rfl
  | succ f=>unfold LY;rw[e]
 | @go a a' r k k' j e _ ih=>
  intro f hf
  have e':=e
  unfold Xn at e'
  split at e'
  ·rename_i q
   rw[Option.map_eq_some_iff]at e'
   obtain⟨x,_,hx⟩:=e'
   have hk:k'=k+(ER l k+4):=(congrArg Prod.snd hx).symm
   cases f with
   | zero=>omega
   | succ f=>
    unfold LY
    rw[e]
    exact ih f (by omega)
  ·cases e'
theorem Mz {l:List Nat} {r:Ww} {k:Nat} (h:Rec l Jk 0 r k):UX l=(r,k):=zk h _ (by omega)
theorem Hb {o:Ow} {h:Hp} {wb:Nat} {Z6:Nat→Nat} {YA:WA} {fl:List Y2} {bad:Nat→Int} {told:List TV} (d:Q8 o h) (W:ZG o h wb Z6 YA fl bad told) (i nb:Nat) (hi:i<5) :
  ∃b off c g,YA.nodes=.slice (some ⟨b,off,none⟩) 5 c∧Jh h ⟨b,off+i,none⟩ (Zp nb)=some g∧Kp (fun t=>t=.nodes) o h o g∧ZG o g wb (fun j=>if j=i then nb else Z6 j) YA fl bad told:=by
 rcases hw:W.nodes with⟨_,e,_⟩|⟨b,off,cap,pre,spare,g1,g2,g3,g4,g5,g6,g7⟩
 ·cases e
 have hw':Jh h ⟨b,off+i,none⟩ (Zp nb)=some (h.setIfInBounds b (.cells (pre++([Zp (Z6 0),Zp (Z6 1),Zp (Z6 2),Zp (Z6 3),Zp (Z6 4)].set i (Zp nb)++spare)).toArray 124)):=by
  rw[Yr g3,if_pos ⟨by simp only[List.length_append,List.length_cons];omega,rfl⟩]
  rw[←g4,List.set_append_right _ _ (by omega),Nat.add_sub_cancel_left,List.set_append_left _ _ (by simpa using hi)]
 have kk:Kp (fun t=>t=.nodes) o h o (h.setIfInBounds b (.cells (pre++([Zp (Z6 0),Zp (Z6 1),Zp (Z6 2),Zp (Z6 3),Zp (Z6 4)].set i (Zp nb)++spare)).toArray 124)):=(Kp.refl d (fun t=>t=.nodes)).set g1 rfl _
 refine⟨b,off,cap,_,g2,hw',kk,W.ZE.Zd kk (by intro e;cases e),?_,W.Zn.Zd kk (by intro e;cases e),W.told.Zd kk (by intro e;cases e)⟩
 refine .inr ⟨b,off,cap,pre,spare,g1,g2,?_,g4,rfl,g6,g7⟩
 rw[Zv g3]
 match i,hi with
 | 0,_=>rfl
 | 1,_=>rfl
 | 2,_=>rfl
 | 3,_=>rfl
 | 4,_=>rfl
def WU (k n a b:Int) (d:Value):List Value:=[.int .i64 k,.int .i64 n,.int .i64 a,.int .i64 b,d]
structure WOk (w:Wd):Prop where
 me:∀i,i<5→(w.nodes i).me=i
 step:∀i,i<5→An (w.nodes i) w.Zn.length w.told.length
 queue:∀i,i<5→(w.nodes i).queue.length≤100000000000
 log:∀i,i<5→(w.nodes i).log.length≤100000000000
 waiting:∀i,i<5→(w.nodes i).waiting.length≤100000000000
 inbox:∀i,i<5→(w.nodes i).inbox.length≤100000000000
 data:∀i,i<5→(w.nodes i).data.length≤1000000
 told:w.told.length≤100000000000
 bad:∀i,i<5→0≤w.bad i∧w.bad i≤1000000000000
 Znj:∀i,i<5→(w.nodes i).own.p.r≤1000000000000∧(w.nodes i).heard.r≤1000000000000 ∧ -1000000000000≤(w.nodes i).own.p.r ∧ -1000000000000≤(w.nodes i).heard.r
 rgn:∀i,i<5→∀r,(w.nodes i).Zj=some r→r.b.r≤1000000000000 ∧ -1000000000000≤r.b.r
 to:∀l∈w.Zn,0≤l.to∧l.to<5
 room:w.Zn.length≤100000000000
theorem X4.fresh {o o':Ow} {h h':Hp} {wb:Nat} {Z6:Nat→Nat} {YA:WA} {w:Wd} {i nb:Nat} {a:NA} {n:Nd} (A:X4 o h wb Z6 YA w) (k:Kp (fun t=>t=.nodes∨t.of=some i) o h o' h')
  (N:ZJ o' h' wb i nb a n) (W:ZG o' h' wb (fun j=>if j=i then nb else Z6 j) YA w.Zn w.bad w.told):X4 o' h' wb (fun j=>if j=i then nb else Z6 j) YA (w.set i n):=by
 refine⟨W,fun j hj=>?_⟩
 by_cases e:j=i
 ·subst e
  refine⟨a,?_⟩
  unfold Wd.set
  simpa using N
 ·obtain⟨b,M⟩:=A.nd j hj
  refine⟨b,?_⟩
  unfold Wd.set
  simp only[if_neg e]
  refine M.Zd k fun t q hq=>?_
  rcases q with rfl|q
  ·cases hq
  ·rw[hq]at q;exact e (Option.some.inj q)
theorem Dn (w:Wd) (i:Nat):w.set i (w.nodes i)=w:=by
 unfold Wd.set
 have:(fun j=>if j=i then w.nodes i else w.nodes j)=w.nodes:=by
  funext j;split
  ·next e=>rw[e]
  ·rfl
 rw[this]
theorem Kg {o:Ow} {h':Hp} {p:Option Addr} {c:Nat} {L:List Nat} (d:Q8 o h') (hb:Bs h' (.slice p L.length c) L) (hc:L.length≤c) (hf:∀b,ZN (.slice p L.length c)=some b→o b=none∧b<h'.size):Vz o h' (.slice p L.length c) L:=
 ⟨⟨hb.sl,⟨p,c,rfl,hc⟩,fun b q=>⟨(hf b q).2,(hf b q).1⟩⟩,hb.byte⟩
theorem Dp {o:Ow} {h:Hp} {v:Value} {l:List Nat} {k:Nat} (d:Q8 o h) (s:Vz o h v l) (hk:k<h.size) (hv:∀b,ZN v=some b→b≠k) (x:Obj):Vz o (h.setIfInBounds k x) v l:=by
 have d2:Q8 (Jj o k Tg.nodes) h:=fun b hb=>by rw[YZ (by omega)];exact d b hb
 have s2:Vz (Jj o k Tg.nodes) h v l:=⟨⟨s.1.sl,s.1.fits,fun b hb=>⟨(s.1.free b hb).1,by rw[YZ (hv b hb)];exact (s.1.free b hb).2⟩⟩,s.2⟩
 have k2:Kp (fun t=>t=Tg.nodes) (Jj o k Tg.nodes) h (Jj o k Tg.nodes) (h.setIfInBounds k x):=(Kp.refl d2 (fun t=>t=Tg.nodes)).set YT rfl x
 have s3:=s2.Zd k2
 exact⟨⟨s3.1.sl,s3.1.fits,fun b hb=>⟨(s3.1.free b hb).1,(s.1.free b hb).2⟩⟩,s3.2⟩
theorem Ar (i:Nat) (n:Nd) (k:Int) (L:List Nat) (Z E:Int) (hu:n.up=true) (h:TI n.data n.Xe k=(L,Z,E)):crashed i n k = { blank i true L Z Jk with up:=false }:=by
 unfold crashed
 rw[if_pos hu]
 unfold TI at h
 by_cases c:YX n.data n.Xe
 ·rw[if_pos (show n.data.length≤100000∧0≤n.Xe∧n.Xe≤n.data.length from c)]at h
  by_cases q:k<0
  ·rw[if_pos q]at h
   cases h
   rw[if_neg (fun e=>by have:=e.2;omega)];rfl
  ·rw[if_neg q]at h
   cases h
   rw[if_pos ⟨c,by omega⟩];rfl
 ·rw[if_neg (show ¬(n.data.length≤100000∧0≤n.Xe∧n.Xe≤n.data.length) from c)]at h
  cases h
  rw[if_neg (fun e=>c e.1)];rfl
theorem As (w:Wd) (l:Y2) (i:Nat):((QX w l).nodes i).inbox.length≤(w.nodes i).inbox.length+1:=by
 unfold QX
 split
 ·unfold Wd.set
  simp only
  split
  ·next e=>subst e;simp
  ·omega
 ·omega
theorem Dq (i:Nat):∀(ls:List Y2) (w:Wd),((ls.foldl QX w).nodes i).inbox.length≤(w.nodes i).inbox.length+ls.length:=by
 intro ls
 induction ls with
 | nil=>intro w;simp
 | cons l ls ih=>
  intro w
  have h1:=ih (QX w l)
  have h2:=As w l i
  simp only[List.foldl_cons,List.length_cons]
  omega
def U0 (l:List Vt):Prop:=(∀x∈l,Yb x)∧l.Pairwise (fun a b=>a.slot<b.slot)
structure Hc (a:Ww):Prop where
 bal:ZU a.p∨(a.p.r=0∧a.p.n=0)
 Jm:U0 a.l
def PW (b:XK):Prop:=0≤b.r∧b.r≤65536
theorem At:∀(l:List Vt) (a:Int),l.Pairwise (fun a b=>a.slot<b.slot)→(∀x∈l,a≤x.slot∧x.slot≤39)→a≤40→(l.length:Int)≤40-a:=by
 intro l
 induction l with
 | nil=>intro a _ _ h;simp;omega
 | cons x l ih=>
  intro a hp hx ha
  rw[List.pairwise_cons]at hp
  have h1:=hx x (by simp)
  have:=ih (x.slot+1) hp.2 (fun y hy=>⟨by have:=hp.1 y hy;omega,(hx y (by simp[hy])).2⟩) (by omega)
  simp only[List.length_cons]
  omega
theorem U0.len {l:List Vt} (h:U0 l):l.length≤40:=by
 have:=At l 0 h.2 (fun x hx=>⟨(h.1 x hx).1.1,(h.1 x hx).1.2⟩) (by omega)
 omega
theorem U0.nil:U0 []:=⟨fun x hx=>by (cases hx),.nil⟩
theorem U0.ins {l:List Vt} (h:U0 l) {v:Vt} (hv:Yb v):U0 (Qv l v):=by
 unfold Qv
 refine⟨fun x hx=>?_,?_⟩
 ·rcases List.mem_append.1 hx with hx|hx
  ·exact h.1 x (List.mem_filter.1 hx).1
  ·rcases List.mem_cons.1 hx with rfl|hx
   ·exact hv
   ·exact h.1 x (List.mem_filter.1 hx).1
 ·rw[List.pairwise_append,List.pairwise_cons]
  refine⟨h.2.sublist List.filter_sublist,⟨fun y hy=>by simpa using (List.mem_filter.1 hy).2,h.2.sublist List.filter_sublist⟩,fun x hx y hy=>?_⟩
  have h1:x.slot<v.slot:=by simpa using (List.mem_filter.1 hx).2
  rcases List.mem_cons.1 hy with rfl|hy
  ·exact h1
  ·have h2:v.slot<y.slot:=by simpa using (List.mem_filter.1 hy).2
   omega
theorem Hc.zero:Hc Jk:=⟨.inr ⟨rfl,rfl⟩,U0.nil⟩
theorem ZU.I {b:XK} (h:ZU b):PW b:=⟨by have:=h.1.1;omega,h.1.2⟩
theorem Hc.nj {a:Ww} (h:Hc a):PW a.p:=by
 rcases h.bal with q|q
 ·exact q.I
 ·unfold PW;omega
structure Qe (C:List Cm) (l:Y2):Prop where
 kind:0≤l.kind∧l.kind≤7
 Jl:0≤l.Jl∧l.Jl<5
 to:0≤l.to∧l.to<5
 b:PW l.b
 slot:0≤l.v.slot∧l.v.slot<40
 vs:U0 l.vs
 cmd:l.kind=4→l.v.cm∈C
def PX {β:Type} (m:Int) (l:List (Int × β)):Prop:=(l.map (·.1)).Nodup∧∀x∈l.map (·.1),0≤x∧x<m
theorem PX.nil {β:Type} (m:Int):PX m ([]:List (Int × β)):=⟨by simp,fun x hx=>by (cases hx)⟩
theorem PX.ins {β:Type} {m:Int} {l:List (Int × β)} (h:PX m l) {k:Int} (hk:0≤k∧k<m) (v:β):PX m (ins l k v):=by
 obtain⟨h1,h2⟩:=Da (k:=k) (v:=v) h.1
 refine⟨h1,fun x hx=>?_⟩
 rcases h2 x hx with rfl|q
 ·exact hk
 ·exact h.2 x q
theorem fW:∀(m:Nat) (l:List Int),l.Nodup→(∀x∈l,0≤x∧x<(m:Int))→l.length≤m:=by
 intro m
 induction m with
 | zero=>
  intro l _ h
  cases l with
  | nil=>simp
  | cons x l=>have:=h x (by simp);omega
 | succ m ih=>
  intro l hn h
  have h1:=ih (l.erase (m:Int)) (hn.erase _) (fun x hx=>by
   have hx':=(List.Nodup.mem_erase_iff hn).1 hx
   have:=h x hx'.2
   have:x≠(m:Int):=hx'.1
   omega)
  have:l.length≤(l.erase (m:Int)).length+1:=by rw[List.length_erase];split<;>omega
  omega
theorem PX.len {β:Type} {m:Nat} {l:List (Int × β)} (h:PX (m:Int) l):l.length≤m:=by
 have:=fW m _ h.1 h.2
 simpa using this
structure GK (r:Qg):Prop where
 b:PW r.b
 prom:PX 5 r.prom
 vs:∀x∈r.prom,U0 x.2
 VW:∀x∈r.Jm,PX 5 x.2
def Zex:fp→Prop
 | .Gy a to b vs=>Hc a∧(0≤to∧to<5)∧PW b∧U0 vs
 | .Gz a to v=>Hc a∧(0≤to∧to<5)∧Yb v
 | .own a vs _=>Hc a∧U0 vs
structure Qi (C:List Cm) (i:Nat) (n:Nd):Prop where
 me:n.me=i
 Xj:0≤n.Xj∧n.Xj<5
 own:Hc n.own
 heard:PW n.heard
 ZS:∀p,n.ZS=some p→Zex p
 Zj:∀r,n.Zj=some r→GK r
 known:PX 40 n.known
 log:∀j,j<n.log.length→(Xc n.known (j:Int)).isSome=true
 queue:n.queue.Nodup∧∀x∈n.queue,x∈C
 data:n.data.length≤100000
theorem Qi.Au {C:List Cm} {i:Nat} {n:Nd} (h:Qi C i n):n.log.length≤40:=by
 have h1:=E8 n.known 0 n.log.length (fun j hj=>by simpa using h.log j hj)
 have h2:=h.known.len (m:=40)
 omega
theorem OL {p:XK} {l:List Vt} {b:XK} (h:Yv p l b=0):ZU b:=by
 unfold Yv at h
 by_cases c1:XC p l≠0
 ·rw[if_pos c1]at h;cases h
 ·rw[if_neg c1]at h
  by_cases c2:¬ZU b
  ·rw[if_pos c2]at h;cases h
  ·simpa using c2
theorem Hd {p:XK} {l:List Vt} {x:Vt} (h:YV p l x=0):Yb x:=by
 unfold YV at h
 by_cases c1:XC p l≠0
 ·rw[if_pos c1]at h;cases h
 ·rw[if_neg c1]at h
  by_cases c2:¬Yb x
  ·rw[if_pos c2]at h;cases h
  ·simpa using c2
theorem Dr {l:List Nat} {n:Int} {k:Nat} (h:Ju l n k=0):l.length+(k+5)≤100000:=by
 unfold Ju at h
 by_cases c1:¬YX l n
 ·rw[if_pos c1]at h;cases h
 ·rw[if_neg c1]at h
  by_cases c2:100000<l.length+(k+5)
  ·rw[if_pos c2]at h;cases h
  ·omega
theorem Ds {l:List Nat} {n:Int} {b:XK} (h:Qp l n b=0):l.length+14≤100000:=by
 unfold Qp at h
 by_cases c1:¬YX l n
 ·rw[if_pos c1]at h;cases h
 ·rw[if_neg c1]at h
  by_cases c2:¬ZU b
  ·rw[if_pos c2]at h;cases h
  ·rw[if_neg c2]at h;exact Dr h
theorem nk {l:List Nat} {n:Int} {x:Vt} (h:Ug l n x=0):l.length+38≤100000:=by
 unfold Ug at h
 by_cases c1:¬YX l n
 ·rw[if_pos c1]at h;cases h
 ·rw[if_neg c1]at h
  by_cases c2:¬Yb x
  ·rw[if_pos c2]at h;cases h
  ·rw[if_neg c2]at h;exact Dr h
theorem bu (b:XK):(Y5 (Qq b)).length=14:=by rw[TT];rfl
theorem sY (x:Vt):(Y5 (SD x)).length=38:=by rw[TT];rfl
structure VY (C:List Cm) (i:Nat) (n:Nd) (o:Out):Prop where
 nd:Qi C i o.n
 ls:∀l∈o.ls,Qe C l
 few:o.ls.length≤1
 ts:o.ts.length+o.n.waiting.length≤n.waiting.length
theorem VY.same {C:List Cm} {i:Nat} {n:Nd} (h:Qi C i n):VY C i n ⟨n,[],[]⟩:=⟨h,(fun l hl=>by cases hl),by simp,by simp⟩
theorem VY.one {C:List Cm} {i:Nat} {n:Nd} (h:Qi C i n) {l:Y2} (hl:Qe C l):VY C i n ⟨n,[l],[]⟩:=⟨h,fun x hx=>by
 have:x=l:=by simpa using hx
 rw[this];exact hl,by simp,by simp⟩
theorem Av {C:List Cm} {i:Nat} {n:Nd} {l:Y2} (hi:i<5) (h:Qi C i n) (hl:Qe C l):VY C i n (Y1 n l):=by
 have GW:0≤(n.me:Int)∧(n.me:Int)<5:=by rw[h.me];omega
 have v0:0≤TQ.slot∧TQ.slot<40:=by decide
 unfold Y1
 by_cases c1:Yv n.own.p n.own.l l.b≠0
 ·rw[if_pos c1]
  exact VY.one h ⟨by simp,GW,hl.Jl,h.own.nj,v0,U0.nil,fun e=>by cases e⟩
 rw[if_neg c1]
 have hb:ZU l.b:=OL (by simpa using c1)
 by_cases c2:n.own.p=l.b
 ·rw[if_pos c2]
  exact VY.one h ⟨by simp,GW,hl.Jl,hl.b,v0,h.own.Jm,fun e=>by cases e⟩
 rw[if_neg c2]
 by_cases c3:Qp n.data n.Xe l.b≠0
 ·rw[if_pos c3];exact VY.same h
 rw[if_neg c3]
 have hd:=Ds (by simpa using c3)
 refine⟨{ h with ZS:=?_,data:=?_ },(fun x hx=>by cases hx),by simp,by simp⟩
 ·intro p hp
  obtain rfl:=Option.some.inj hp
  exact⟨⟨.inl hb,h.own.Jm⟩,hl.Jl,hb.I,h.own.Jm⟩
 ·show (n.data++Y5 (Qq l.b)).length≤100000
  rw[List.length_append,bu];exact hd
theorem sZ {C:List Cm} {i:Nat} {n:Nd} {l:Y2} (hi:i<5) (h:Qi C i n) (hl:Qe C l):VY C i n (asked n l):=by
 have GW:0≤(n.me:Int)∧(n.me:Int)<5:=by rw[h.me];omega
 have v0:0≤TQ.slot∧TQ.slot<40:=by decide
 unfold asked
 by_cases c1:YV n.own.p n.own.l l.v≠0
 ·rw[if_pos c1]
  exact VY.one h ⟨by simp,GW,hl.Jl,h.own.nj,v0,U0.nil,fun e=>by cases e⟩
 rw[if_neg c1]
 have hv:Yb l.v:=Hd (by simpa using c1)
 by_cases c2:l.v∈n.own.l
 ·rw[if_pos c2]
  exact VY.one h ⟨by simp,GW,hl.Jl,by unfold PW JA;simp,hl.slot,U0.nil,fun e=>by cases e⟩
 rw[if_neg c2]
 by_cases c3:Ug n.data n.Xe l.v≠0
 ·rw[if_pos c3];exact VY.same h
 rw[if_neg c3]
 have hd:=nk (by simpa using c3)
 refine⟨{ h with ZS:=?_,data:=?_ },(fun x hx=>by cases hx),by simp,by simp⟩
 ·intro p hp
  obtain rfl:=Option.some.inj hp
  exact⟨⟨.inl hv.2.1,h.own.Jm.ins hv⟩,hl.Jl,hv⟩
 ·show (n.data++Y5 (SD l.v)).length≤100000
  rw[List.length_append,sY];exact hd
theorem np {C:List Cm} {i:Nat} {n:Nd} {x:Cm} (h:Qi C i n) (hx:Xc n.known (n.log.length:Int)=some x):Qi C i (UW n x)∧(VT n x).length+(UW n x).waiting.length≤n.waiting.length:=by
 refine⟨{ h with log:=?_,queue:=?_ },?_⟩
 ·intro j hj
  have hj':j<(n.log++[x]).length:=hj
  show (Xc n.known (j:Int)).isSome=true
  rw[List.length_append,List.length_singleton]at hj'
  by_cases e:j<n.log.length
  ·exact h.log j e
  ·have:j=n.log.length:=by omega
   subst this
   rw[hx];rfl
 ·exact⟨h.queue.1.sublist List.filter_sublist,fun y hy=>h.queue.2 y (List.mem_filter.1 hy).1⟩
 ·show (VT n x).length+(n.waiting.erase x).length≤n.waiting.length
  unfold VT
  by_cases c:x∈n.waiting
  ·rw[if_pos c,List.length_erase_of_mem c]
   have:=List.length_pos_of_mem c
   simp;omega
  ·rw[if_neg c,List.erase_of_not_mem c];simp
theorem fX {C:List Cm} {i:Nat}:∀(k:Nat) (n:Nd),Qi C i n→Qi C i (YJ k n).1∧(YJ k n).2.length+(YJ k n).1.waiting.length≤n.waiting.length:=by
 intro k
 induction k with
 | zero=>intro n h;exact⟨h,by simp[YJ]⟩
 | succ k ih=>
  intro n h
  unfold YJ
  cases hx:Xc n.known (n.log.length:Int) with
  | none=>exact⟨h,by simp⟩
  | some x=>
   obtain⟨h1,h2⟩:=np h hx
   obtain⟨h3,h4⟩:=ih _ h1
   refine⟨h3,?_⟩
   simp only[List.length_append]
   omega
theorem bz {C:List Cm} {i:Nat} {n:Nd} (h:Qi C i n) (s:Int) (x:Cm) (hs:0≤s∧s<40):VY C i n (Ul n s x):=by
 have h1:Qi C i (Uh n s x):={ h with
  known:=h.known.ins hs x
  log:=fun j hj=>by
   show (Xc (ins n.known s x) (j:Int)).isSome=true
   rw[ae]
   split
   ·rfl
   ·exact h.log j hj }
 obtain⟨h2,h3⟩:=fX ((Uh n s x).known.length+1) (Uh n s x) h1
 exact⟨h2,(fun l hl=>by cases hl),by simp[Ul],h3⟩
theorem Kh {β:Type}:∀{l:List (Int × β)} {k:Int} {v:β} {x:Int × β},x∈ins l k v→x.2=v∨x∈l:=by
 intro l
 induction l with
 | nil=>
  intro k v x hx
  left
  have:x=(k,v):=by simpa [ins] using hx
  rw[this]
 | cons y l ih=>
  intro k v x hx
  obtain⟨a,b⟩:=y
  unfold ins at hx
  split at hx
  ·rcases List.mem_cons.1 hx with rfl|hx
   ·exact .inl rfl
   ·exact .inr (by simp[hx])
  ·rcases List.mem_cons.1 hx with rfl|hx
   ·exact .inr (by simp)
   ·rcases ih hx with q|q
    ·exact .inl q
    ·exact .inr (by simp[q])
theorem Aw {C:List Cm} {i:Nat} {n:Nd} {l:Y2} (hi:i<5) (h:Qi C i n) (hl:Qe C l):VY C i n (Yz n l):=by
 unfold Yz
 cases hr:n.Zj with
 | none=>exact VY.same h
 | some r=>
  have R:=h.Zj r hr
  have hs:∀r',(N9 n r l).Zj=some r'→GK r':=by
   intro r' hr'
   obtain rfl:=Option.some.inj hr'
   refine⟨R.b,R.prom,R.vs,fun x hx=>?_⟩
   rcases Kh hx with q|q
   ·rw[q]
    unfold Tm
    refine PX.ins ?_ hl.Jl ()
    cases hk:Xc r.Jm l.v.slot with
    | none=>exact PX.nil 5
    | some s=>exact R.VW _ (Mq hk)
   ·exact R.VW x q
  have hv:Qi C i (N9 n r l):={ h with Zj:=hs }
  simp only
  split
  ·split
   ·refine⟨{ h with Zj:=fun r' hr'=>?_ },(fun x hx=>by cases hx),by simp,by simp[yH]⟩
    obtain rfl:=Option.some.inj hr'
    refine⟨R.b,R.prom.ins hl.Jl l.vs,fun x hx=>?_,R.VW⟩
    rcases Kh hx with q|q
    ·rw[q];exact hl.vs
    ·exact R.vs x q
   ·exact VY.same h
  ·split
   ·exact VY.same h
   ·split
    ·have:=bz hv l.v.slot l.v.cm hl.slot
     exact⟨this.nd,this.ls,this.few,this.ts⟩
    ·exact⟨hv,(fun x hx=>by cases hx),by simp,by simp[N9]⟩
theorem vj {C:List Cm} {i:Nat} {n:Nd} {x:Cm} (h:Qi C i n) (hx:x∈C):Qi C i (add n x):=by
 unfold add
 split
 ·exact h
 ·rename_i q
  refine { h with queue:=⟨?_,fun y hy=>?_⟩ }
  ·show (n.queue++[x]).Nodup
   rw[List.nodup_append]
   refine⟨h.queue.1,by simp,fun a ha b hb e=>?_⟩
   have:b=x:=by simpa using hb
   exact q (.inl (by rw[←this,←e];exact ha))
  ·have hy:y∈n.queue++[x]:=hy
   rcases List.mem_append.1 hy with hy|hy
   ·exact h.queue.2 y hy
   ·have:y=x:=by simpa using hy
    rw[this];exact hx
theorem bB {C:List Cm} {i:Nat} {n:Nd} {l:Y2} (h:Qi C i n) (hl:Qe C l):Qi C i (notes n l):=by
 unfold notes
 split
 ·exact { h with heard:=hl.b }
 ·exact h
theorem td {C:List Cm} {i:Nat} {n:Nd} {l:Y2} (hi:i<5) (h:Qi C i n) (hl:Qe C l):VY C i n (Q4 n l):=by
 have GW:0≤(n.me:Int)∧(n.me:Int)<5:=by rw[h.me];omega
 have hn:=bB h hl
 have hw:(notes n l).waiting=n.waiting:=by unfold notes;split<;>rfl
 unfold Q4
 split
 ·next y _=>
  refine⟨hn,fun x hx=>?_,by simp,by simp[hw]⟩
  have:x=⟨6,n.me,l.Jl,JA,Tj l.v.slot JA y,[]⟩:=by simpa using hx
  rw[this]
  exact⟨by simp,GW,hl.Jl,by unfold PW JA;simp,hl.slot,U0.nil,fun e=>by cases e⟩
 ·exact⟨hn,(fun x hx=>by cases hx),by simp,by simp[hw]⟩
theorem Dt {C:List Cm} {i:Nat} {n:Nd} {l:Y2} (hi:i<5) (h:Qi C i n) (hl:Qe C l):VY C i n (handle n l):=by
 have hw:(notes n l).waiting=n.waiting:=by unfold notes;split<;>rfl
 unfold handle
 split
 ·exact Av hi h hl
 split
 ·exact Aw hi h hl
 split
 ·exact sZ hi h hl
 split
 ·rename_i e
  refine⟨vj h (hl.cmd e),(fun x hx=>by cases hx),by simp,?_⟩
  have:(add n l.v.cm).waiting=n.waiting:=by unfold add;split<;>rfl
  simp[this]
 split
 ·exact td hi h hl
 split
 ·exact bz h _ _ hl.slot
 ·exact⟨bB h hl,(fun x hx=>by cases hx),by simp,by simp[hw]⟩
theorem Qi.inbox {C:List Cm} {i:Nat} {n:Nd} (h:Qi C i n) (k:List Y2):Qi C i { n with inbox:=k }:={ h with }
theorem bC {C:List Cm} {i:Nat} (hi:i<5):∀(k:List Y2) (n:Nd),Qi C i n→(∀l∈k,Qe C l) →
  Qi C i (drain n k).n∧(∀l∈(drain n k).ls,Qe C l)∧(∀l∈(drain n k).n.inbox,Qe C l)∧(drain n k).ls.length+(drain n k).n.inbox.length≤k.length∧(drain n k).ts.length+(drain n k).n.waiting.length≤n.waiting.length:=by
 intro k
 induction k with
 | nil=>
  intro n h _
  unfold drain
  exact⟨h.inbox [],(fun x hx=>by cases hx),(fun x hx=>by cases hx),by simp,by simp⟩
 | cons l k ih=>
  intro n h hk
  unfold drain
  split
  ·exact⟨h.inbox _,(fun x hx=>by cases hx),hk,by simp,by simp⟩
  ·have o:=Dt hi (h.inbox k) (hk l (by simp))
   obtain⟨h1,h2,h3,h4,h5⟩:=ih _ o.nd (fun x hx=>hk x (by simp[hx]))
   have ots:=o.ts
   have of:=o.few
   refine⟨h1,fun x hx=>?_,h3,?_,?_⟩
   ·rcases List.mem_append.1 hx with hx|hx
    ·exact o.ls x hx
    ·exact h2 x hx
   ·simp only[List.length_append,List.length_cons];omega
   ·simp only[List.length_append]
    have:({ n with inbox:=k }:Nd).waiting=n.waiting:=rfl
    rw[this]at ots
    omega
theorem Su:∀{l C:List Cm},l.Nodup→(∀x∈l,x∈C)→l.length≤C.length:=by
 intro l
 induction l with
 | nil=>intro C _ _;simp
 | cons x l ih=>
  intro C hn hs
  rw[List.nodup_cons]at hn
  have hx:=hs x (by simp)
  have h1:=ih (C:=C.erase x) hn.2 (fun y hy=>by
   have Ys:y≠x:=fun e=>hn.1 (by rw[←e];exact hy)
   exact (List.mem_erase_of_ne Ys).2 (hs y (by simp[hy])))
  rw[List.length_erase_of_mem hx]at h1
  have:=List.length_pos_of_mem hx
  simp only[List.length_cons]
  omega
theorem Qi.hand {C:List Cm} {i:Nat} {n:Nd} {l:Y2} (h:Qi C i n) (hl:Qe C l) (hC:C.length≤100000) (hw:n.waiting.length≤100000) {f t:Nat} (hf:f≤100000000000) (ht:t≤1000000):Am n l f t:=by
 have OI:=h.Au
 have gL:=h.known.len (m:=40)
 have hq:n.queue.length≤C.length:=Su h.queue.1 h.queue.2
 refine⟨hl.kind,by omega,by have:=h.own.Jm.len;omega,by have:=h.data;omega,by omega,by omega,by omega,by omega,by omega,fun r s hr=>?_⟩
 cases hk:Xc r.Jm s with
 | none=>simp
 | some x=>
  have:=(h.Zj r hr).VW _ (Mq hk)
  have:x.length≤5:=this.len (m:=5)
  simp only[Option.getD_some]
  omega
theorem Qi.dut {C:List Cm} {i:Nat} {n:Nd} (h:Qi C i n) (hC:C.length≤100000) {f:Nat} (hf:f≤100000000000):nc n f:=by
 have OI:=h.Au
 have hq:n.queue.length≤C.length:=Su h.queue.1 h.queue.2
 refine⟨by omega,by have:=h.own.Jm.len;omega,by have:=h.data;omega,fun r hr=>?_,by omega,by omega,h.Xj⟩
 have R:=h.Zj r hr
 have hp:r.prom.length≤5:=R.prom.len (m:=5)
 refine⟨fun x hx=>by have:=(R.vs x hx).len;omega,fun x hx v hv=>?_,by omega⟩
 have:=((R.vs x hx).1 v hv).1.2
 omega
theorem nq {C:List Cm} {i:Nat} (hi:i<5) (hC:C.length≤100000):∀(k:List Y2) (n:Nd),Qi C i n→(∀l∈k,Qe C l)→n.waiting.length≤100000→∀f t,f+k.length≤100000000000→t+n.waiting.length≤1000000→St n k f t:=by
 intro k
 induction k with
 | nil=>intro n _ _ _ f t _ _;exact trivial
 | cons l k ih=>
  intro n h hk hw f t hf ht
  simp only[List.length_cons]at hf
  unfold St
  by_cases hp:n.ZS.isSome=true
  ·exact .inl hp
  ·have o:=Dt hi (h.inbox k) (hk l (by simp))
   have ots:=o.ts
   have of:=o.few
   have:({ n with inbox:=k }:Nd).waiting=n.waiting:=rfl
   rw[this]at ots
   exact .inr ⟨(h.inbox k).hand (hk l (by simp)) hC hw (by omega) (by omega),ih _ o.nd (fun x hx=>hk x (by simp[hx])) (by omega) _ _ (by omega) (by omega)⟩
theorem nr {C:List Cm} {i:Nat} {n:Nd} (hi:i<5) (hC:C.length≤100000) (h:Qi C i n) (hk:∀l∈n.inbox,Qe C l) (hw:n.waiting.length≤100000) {f t:Nat} (hf:f+n.inbox.length≤100000000000) (ht:t+n.waiting.length≤1000000):An n f t:=by
 obtain⟨h1,h2,h3,h4,h5⟩:=bC hi n.inbox n h hk
 exact⟨by have:=h.data;omega,by omega,fun _=>nq hi hC n.inbox n h hk hw f t hf ht,fun _ _=>h1.dut hC (by omega)⟩
theorem th {n:Nd} {r:Qg} {x:Cm} (R:GK r):GK (Vr n r x):=by
 unfold Vr
 split
 ·exact⟨R.b,R.prom,R.vs,R.VW⟩
 ·exact R
theorem fY {n:Nd}:∀(l:List Cm) (r:Qg),GK r→GK (JC n r l):=by
 intro l
 induction l with
 | nil=>intro r R;exact R
 | cons x l ih=>intro r R;exact ih _ (th R)
theorem ti {n:Nd} {r:Qg} (R:GK r):GK (LX n r):=by
 unfold LX
 refine fY _ _ ?_
 split
 ·exact R
 ·exact⟨R.b,R.prom,R.vs,R.VW⟩
theorem GL:PW JA:=by unfold PW JA;simp
theorem zm {C:List Cm} {i:Nat} {n:Nd} {r:Qg} (hi:i<5) (h:Qi C i n) (R:GK r):Qi C i (Qw n r).n∧(∀l∈(Qw n r).ls,Qe C l)∧(Qw n r).n.inbox=n.inbox∧(Qw n r).n.waiting=n.waiting:=by
 have GW:0≤(n.me:Int)∧(n.me:Int)<5:=by rw[h.me];omega
 have v0:0≤TQ.slot∧TQ.slot<40:=by decide
 unfold Qw
 split
 ·split
  ·exact⟨h,(fun x hx=>by cases hx),rfl,rfl⟩
  ·rename_i hd
   have hd:=Ds (by simpa using hd)
   refine⟨{ h with ZS:=?_,data:=?_ },(fun x hx=>by cases hx),rfl,rfl⟩
   ·intro p hp
    obtain rfl:=Option.some.inj hp
    by_cases c:Yv n.own.p n.own.l r.b=0
    ·simp only[c,if_true]
     exact⟨⟨.inl (OL c),h.own.Jm⟩,h.own.Jm⟩
    ·simp only[c,if_false]
     exact⟨Hc.zero,U0.nil⟩
   ·show (n.data++Y5 (Qq r.b)).length≤100000
    rw[List.length_append,bu];exact hd
 ·split
  ·refine⟨h,fun l hl=>?_,rfl,rfl⟩
   unfold LV at hl
   simp only[List.mem_flatMap,List.mem_range]at hl
   obtain⟨m,hm,hl⟩:=hl
   split at hl
   ·have:l=⟨0,n.me,m,r.b,TQ,[]⟩:=by simpa using hl
    rw[this]
    exact⟨by simp,GW,by simp only;omega,R.b,v0,U0.nil,fun e=>by cases e⟩
   ·cases hl
  ·refine⟨{ h with Zj:=fun r' hr'=>?_ },fun l hl=>?_,rfl,rfl⟩
   ·obtain rfl:=Option.some.inj hr'
    exact ti R
   ·unfold LW at hl
    simp only[List.mem_flatMap,List.mem_range]at hl
    obtain⟨s,hs,hl⟩:=hl
    unfold WN at hl
    split at hl
    ·split at hl
     ·simp only[List.mem_flatMap,List.mem_range]at hl
      obtain⟨m,hm,hl⟩:=hl
      unfold PM at hl
      split at hl
      ·next x _ _ _=>
       have:l=⟨2,n.me,m,JA,Tj s (LX n r).b x,[]⟩:=by simpa using hl
       rw[this]
       exact⟨by simp,GW,by simp only;omega,GL,by simp only[Tj];omega,U0.nil,fun e=>by cases e⟩
      ·cases hl
     ·cases hl
    ·cases hl
theorem tj {C:List Cm} {i:Nat} {n:Nd} (h:Qi C i n):Qi C i (still n)∧(still n).inbox=n.inbox∧(still n).waiting=n.waiting:=by
 unfold still
 split
 ·split
  ·exact⟨{ h with Zj:=fun r hr=>by cases hr },rfl,rfl⟩
  ·exact⟨h,rfl,rfl⟩
 ·exact⟨h,rfl,rfl⟩
theorem tp {C:List Cm} {i:Nat} {n:Nd} (hi:i<5) (h:Qi C i n):Qi C i (Yp n).n∧(∀l∈(Yp n).ls,Qe C l)∧(Yp n).n.inbox=n.inbox∧(Yp n).n.waiting=n.waiting:=by
 have GW:0≤(n.me:Int)∧(n.me:Int)<5:=by rw[h.me];omega
 unfold Yp
 split
 ·next r hr=>exact zm hi h (h.Zj r hr)
 ·split
  ·rename_i q
   refine⟨h,fun l hl=>?_,rfl,rfl⟩
   unfold TX at hl
   simp only[List.mem_map]at hl
   obtain⟨x,hx,rfl⟩:=hl
   have hb:ZU n.own.p:=by
    rcases h.own.bal with e|e
    ·exact e
    ·have:=q.1;omega
   exact⟨by simp,GW,by simp only;have:=hb.2;omega,GL,by simp[Tj],U0.nil,fun _=>h.queue.2 x hx⟩
  ·exact⟨h,(fun x hx=>by cases hx),rfl,rfl⟩
theorem tq {C:List Cm} {i:Nat} {n:Nd} (h:Qi C i n):PW (Um n):=by
 unfold Um;split
 ·exact h.heard
 ·exact h.own.nj
theorem zn {C:List Cm} {i:Nat} {n:Nd} (hi:i<5) (hC:C.length≤100000) (h:Qi C i n):Qi C i (Q6 n).n∧(∀l∈(Q6 n).ls,Qe C l)∧(Q6 n).n.inbox=n.inbox∧(Q6 n).n.waiting=n.waiting∧(Q6 n).ls.length≤100201∧(Q6 n).ts=[]:=by
 obtain⟨s1,s2,s3⟩:=tj h
 obtain⟨d1,d2,d3,d4⟩:=tp hi s1
 have hq:(still n).queue.length≤C.length:=Su s1.queue.1 s1.queue.2
 have hls:=Di (still n)
 unfold Q6
 split
 ·exact⟨d1,d2,by rw[d3,s2],by rw[d4,s3],by omega,(Rv _).2.2.2.2.2⟩
 ·have tt:0≤((Yp (still n)).n.Xj+1)%5∧((Yp (still n)).n.Xj+1)%5<5:=by omega
  have t1:Qi C i (JV (Yp (still n)).n):={ d1 with Xj:=tt }
  have GW:0≤((JV (Yp (still n)).n).me:Int)∧((JV (Yp (still n)).n).me:Int)<5:=by rw[t1.me];omega
  refine⟨t1,fun l hl=>?_,by show (Yp (still n)).n.inbox=_;rw[d3,s2],by show (Yp (still n)).n.waiting=_;rw[d4,s3],?_,rfl⟩
  ·rcases List.mem_append.1 hl with hl|hl
   ·exact d2 l hl
   ·unfold WO at hl
    split at hl
    ·rename_i q
     have:l=⟨5,(JV (Yp (still n)).n).me,(JV (Yp (still n)).n).Xj,Um (JV (Yp (still n)).n),Tj (JV (Yp (still n)).n).log.length JA oy,[]⟩:=by simpa using hl
     rw[this]
     exact⟨by simp,GW,t1.Xj,tq t1,by simp only[Tj];have:=q.2;omega,U0.nil,fun e=>by cases e⟩
    ·cases hl
  ·have:(WO (JV (Yp (still n)).n)).length≤1:=by unfold WO;split<;>simp
   simp only[List.length_append]
   omega
theorem nt {C:List Cm} {i:Nat} {n:Nd} (h:Qi C i n):Qi C i (synced n):=by
 refine { h with ZS:=(fun p hp=>by cases hp),data:=?_ }
 show (if YX n.data n.Xe then n.data else []).length≤100000
 split
 ·exact h.data
 ·simp
theorem nu {C:List Cm} {i:Nat} {n:Nd} {p:fp} (hi:i<5) (h:Qi C i n) (P:Zex p):Qi C i (finish n p).n∧(∀l∈(finish n p).ls,Qe C l)∧(finish n p).n.inbox=n.inbox∧(finish n p).n.waiting=n.waiting∧(finish n p).ls.length≤1∧(finish n p).ts=[]:=by
 have GW:0≤(n.me:Int)∧(n.me:Int)<5:=by rw[h.me];omega
 have v0:0≤TQ.slot∧TQ.slot<40:=by decide
 cases p with
 | Gy a to b vs=>
  obtain⟨p1,p2,p3,p4⟩:=P
  refine⟨{ h with own:=p1 },fun l hl=>?_,rfl,rfl,by simp[finish],rfl⟩
  have:l=⟨1,n.me,to,b,TQ,vs⟩:=by simpa [finish] using hl
  rw[this]
  exact⟨by simp,GW,p2,p3,v0,p4,fun e=>by cases e⟩
 | Gz a to v=>
  obtain⟨p1,p2,p3⟩:=P
  refine⟨{ h with own:=p1 },fun l hl=>?_,rfl,rfl,by simp[finish],rfl⟩
  have:l=⟨3,n.me,to,JA,v,[]⟩:=by simpa [finish] using hl
  rw[this]
  exact⟨by simp,GW,p2,GL,by have:=p3.1;simp only;omega,U0.nil,fun e=>by cases e⟩
 | own a vs cur=>
  obtain⟨p1,p2⟩:=P
  refine⟨{ h with own:=p1,Zj:=fun r hr=>?_ },(fun x hx=>by cases hx),rfl,rfl,by simp[finish],rfl⟩
  have hr:(if cur=true then n.Zj.map (fun r=>{ r with prom:=ins r.prom n.me vs }) else n.Zj)=some r:=hr
  split at hr
  ·rw[Option.map_eq_some_iff]at hr
   obtain⟨r0,h0,rfl⟩:=hr
   have R:=h.Zj r0 h0
   refine⟨R.b,R.prom.ins GW vs,fun x hx=>?_,R.VW⟩
   rcases Kh hx with q|q
   ·rw[q];exact p2
   ·exact R.vs x q
  ·exact h.Zj r hr
theorem zo {C:List Cm} {i:Nat} {n:Nd} (hi:i<5) (hC:C.length≤100000) (h:Qi C i n) (hk:∀l∈n.inbox,Qe C l) :
  Qi C i (step n).n∧(∀l∈(step n).ls,Qe C l)∧(∀l∈(step n).n.inbox,Qe C l)∧(step n).ls.length+(step n).n.inbox.length≤n.inbox.length+100201∧(step n).ts.length+(step n).n.waiting.length≤n.waiting.length:=by
 unfold step
 split
 ·cases hp:n.ZS with
  | some p=>
   obtain⟨f1,f2,f3,f4,f5,f6⟩:=nu hi (nt h) (h.ZS p hp)
   refine⟨f1,f2,by simp only;rw[f3];exact hk,?_,?_⟩
   ·simp only;rw[f3];show _+n.inbox.length≤_;omega
   ·simp only;rw[f4,f6];show 0+n.waiting.length≤_;omega
  | none=>
   obtain⟨d1,d2,d3,d4,d5⟩:=bC hi n.inbox n h hk
   simp only
   split
   ·exact⟨d1,d2,d3,by omega,d5⟩
   ·obtain⟨e1,e2,e3,e4,e5,e6⟩:=zn hi hC d1
    refine⟨e1,fun l hl=>?_,by simp only;rw[e3];exact d3,?_,?_⟩
    ·rcases List.mem_append.1 hl with hl|hl
     ·exact d2 l hl
     ·exact e2 l hl
    ·simp only[List.length_append];rw[e3];omega
    ·simp only;rw[e4,e6,List.append_nil];exact d5
 ·exact⟨h,(fun x hx=>by cases hx),hk,by simp,by simp⟩
theorem zp {a a':Ww} {b:List Nat} (h:Jf a b=some a') (ha:Hc a):Hc a':=by
 unfold Jf at h
 split at h
 ·split at h
  ·rename_i q
   cases h
   exact⟨.inl (OL q),ha.Jm⟩
  ·cases h
 ·split at h
  ·split at h
   ·cases h
   ·split at h
    ·rename_i q
     cases h
     have hv:=Hd q
     exact⟨.inl hv.2.1,ha.Jm.ins hv⟩
    ·cases h
  ·cases h
theorem tC (l:List Nat):∀(f:Nat) (a:Ww) (k:Nat),Hc a→Hc (LY l f a k).1:=by
 intro f
 induction f with
 | zero=>intro a k h;exact h
 | succ f ih=>
  intro a k h
  unfold LY
  cases hs:Xn l a k with
  | none=>exact h
  | some x=>
   refine ih _ _ ?_
   unfold Xn at hs
   split at hs
   ·rw[Option.map_eq_some_iff]at hs
    obtain⟨y,hy,rfl⟩:=hs
    exact zp hy h
   ·cases hs
theorem nw (l:List Nat):Hc (UX l).1:=tC l _ _ _ Hc.zero
theorem MA {C:List Cm} {i:Nat} {up:Bool} {data:List Nat} {Xe:Int} {own:Ww} (hd:data.length≤100000) (ho:Hc own):Qi C i (blank i up data Xe own):=
 ⟨rfl,by unfold blank;simp,ho,GL,(fun p hp=>by cases hp),(fun r hr=>by cases hr),PX.nil 40,(fun j hj=>by cases hj),⟨by simp[blank],(fun x hx=>by cases hx)⟩,hd⟩
theorem fZ {C:List Cm} {i:Nat} {n:Nd} (h:Qi C i n) (Zd:Int):Qi C i (crashed i n Zd)∧((crashed i n Zd).inbox=[]∧(crashed i n Zd).waiting=[]∨crashed i n Zd=n):=by
 unfold crashed
 split
 ·split
  ·refine⟨MA ?_ Hc.zero,.inl ⟨rfl,rfl⟩⟩
   have:=h.data
   rw[List.length_take];omega
  ·exact⟨MA (by simp) Hc.zero,.inl ⟨rfl,rfl⟩⟩
 ·exact⟨h,.inr rfl⟩
theorem ga {C:List Cm} {i:Nat} {n:Nd} (h:Qi C i n):Qi C i (started i n)∧((started i n).inbox=[]∧(started i n).waiting=[]∨started i n=n):=by
 unfold started
 split
 ·exact⟨h,.inr rfl⟩
 ·refine⟨MA ?_ ?_,.inl ⟨rfl,rfl⟩⟩
  ·unfold GB
   have:=h.data
   split
   ·rw[List.length_take];omega
   ·simp
  ·split
   ·exact nw _
   ·exact Hc.zero
theorem zq {C:List Cm} {i:Nat} {n:Nd} (h:Qi C i n):Qi C i (lead n)∧(lead n).inbox=n.inbox∧(lead n).waiting=n.waiting:=by
 unfold lead
 split
 ·exact⟨h,rfl,rfl⟩
 ·rename_i q
  refine⟨{ h with ZS:=?_,Zj:=fun r hr=>?_ },rfl,rfl⟩
  ·intro p hp
   have hp:Xk n.ZS=some p:=hp
   cases hn:n.ZS with
   | none=>rw[hn]at hp;cases hp
   | some p0=>
    have P:=h.ZS p0 hn
    rw[hn]at hp
    cases p0 with
    | Gy a to b vs=>cases hp;exact P
    | Gz a to v=>cases hp;exact P
    | own a vs cur=>cases hp;exact P
  ·obtain rfl:=Option.some.inj hr
   refine⟨⟨?_,?_⟩,PX.nil 5,(fun x hx=>by cases hx),(fun x hx=>by cases hx)⟩
   ·have h1:=h.own.nj.1
    show 0≤(J8 n).r
    unfold J8
    simp only
    split<;>omega
   ·have:¬65536<(J8 n).r:=fun e=>q (.inr e)
    show (J8 n).r≤65536
    omega
def Rw (f:Nat→Nat):Nat:=f 0+f 1+f 2+f 3+f 4
theorem nx (f:Nat→Nat) (i a:Nat) (hi:i<5):Rw (fun j=>if j=i then a else f j)+f i=Rw f+a:=by
 unfold Rw
 match i,hi with
 | 0,_=>simp;omega
 | 1,_=>simp;omega
 | 2,_=>simp;omega
 | 3,_=>simp;omega
 | 4,_=>simp;omega
theorem bD (f:Nat→Nat) (i:Nat) (hi:i<5):f i≤Rw f:=by
 unfold Rw
 match i,hi with
 | 0,_=>omega
 | 1,_=>omega
 | 2,_=>omega
 | 3,_=>omega
 | 4,_=>omega
structure WI (C:List Cm) (k:Nat) (w:Wd):Prop where
 nd:∀i,i<5→Qi C i (w.nodes i)
 Mc:∀i,i<5→∀l∈(w.nodes i).inbox,Qe C l
 He:∀l∈w.Zn,Qe C l
 room:w.Zn.length+Rw (fun i=>(w.nodes i).inbox.length)≤k*100300
 wait:w.told.length+Rw (fun i=>(w.nodes i).waiting.length)≤k
 bad:∀i,0≤w.bad i∧w.bad i≤k
theorem PY (w:Wd) (i:Nat) (n:Nd) (g:Nd→Nat) (hi:i<5):Rw (fun j=>g (if j=i then n else w.nodes j))+g (w.nodes i)=Rw (fun j=>g (w.nodes j))+g n:=by
 have:=nx (fun j=>g (w.nodes j)) i (g n) hi
 have e:(fun j=>g (if j=i then n else w.nodes j))=(fun j=>if j=i then g n else g (w.nodes j)):=by
  funext j;split<;>rfl
 rw[e];exact this
theorem WI.out {C:List Cm} {k:Nat} {w:Wd} (h:WI C k w) {i:Nat} (hi:i<5) {o:Out} (h1:Qi C i o.n) (h2:∀l∈o.ls,Qe C l) (h3:∀l∈o.n.inbox,Qe C l) (h4:o.ls.length+o.n.inbox.length≤(w.nodes i).inbox.length+100300) (h5:o.ts.length+o.n.waiting.length≤(w.nodes i).waiting.length+1):WI C (k+1) (w.out i o):=by
 unfold Wd.out
 refine⟨fun j hj=>?_,fun j hj l hl=>?_,fun l hl=>?_,?_,?_,fun j=>by have:=h.bad j;simp only;omega⟩
 ·by_cases e:j=i
  ·subst e;simpa using h1
  ·simp only[if_neg e];exact h.nd j hj
 ·by_cases e:j=i
  ·subst e;simp only[if_true]at hl;exact h3 l hl
  ·simp only[if_neg e]at hl;exact h.Mc j hj l hl
 ·rcases List.mem_append.1 hl with hl|hl
  ·exact h.He l hl
  ·exact h2 l hl
 ·have:=PY w i o.n (fun n=>n.inbox.length) hi
  have hr:=h.room
  simp only[List.length_append]at this ⊢
  omega
 ·have:=PY w i o.n (fun n=>n.waiting.length) hi
  have hr:=h.wait
  simp only[List.length_append]at this ⊢
  omega
theorem VZ (w:Wd) (i:Nat) (n:Nd):w.set i n=w.out i ⟨n,[],[]⟩:=by
 unfold Wd.set Wd.out
 simp
theorem WI.more {C:List Cm} {k:Nat} {w:Wd} (h:WI C k w):WI C (k+1) w:=
 ⟨h.nd,h.Mc,h.He,Nat.le_trans h.room (Nat.mul_le_mul_right _ (Nat.le_succ k)),Nat.le_trans h.wait (Nat.le_succ k),fun i=>⟨(h.bad i).1,by have:=(h.bad i).2;omega⟩⟩
theorem WI.ok {C:List Cm} {k:Nat} {w:Wd} (h:WI C k w) (hC:C.length≤100000) (hk:k≤100000):WOk w:=by
 have hr:=h.room
 have hw:=h.wait
 have S9:∀i,i<5→(w.nodes i).inbox.length+w.Zn.length≤10030000000:=fun i hi=>by
  have:(w.nodes i).inbox.length≤_:=bD (fun i=>(w.nodes i).inbox.length) i hi
  omega
 have MC:∀i,i<5→(w.nodes i).waiting.length+w.told.length≤100000:=fun i hi=>by
  have:(w.nodes i).waiting.length≤_:=bD (fun i=>(w.nodes i).waiting.length) i hi
  omega
 refine⟨fun i hi=>(h.nd i hi).me,fun i hi=>nr hi hC (h.nd i hi) (h.Mc i hi) (by have:=MC i hi;omega) (by have:=S9 i hi;omega) (by have:=MC i hi;omega),fun i hi=>?_,fun i hi=>?_,fun i hi=>?_,fun i hi=>?_,fun i hi=>?_,?_,fun i hi=>?_,fun i hi=>?_,fun i hi r hr=>?_,fun l hl=>(h.He l hl).to,?_⟩
 ·have:=Su (h.nd i hi).queue.1 (h.nd i hi).queue.2;omega
 ·have:=(h.nd i hi).Au;omega
 ·have:=MC i hi;omega
 ·have:=S9 i hi;omega
 ·have:=(h.nd i hi).data;omega
 ·have:=MC 0 (by omega);omega
 ·have:=h.bad i;omega
 ·have h1:=(h.nd i hi).own.nj
  have h2:=(h.nd i hi).heard
  unfold PW at h1 h2
  omega
 ·have h1:=((h.nd i hi).Zj r hr).b
  unfold PW at h1
  omega
 ·have:=S9 0 (by omega);omega
set_option maxHeartbeats 8000000 in
theorem zr (T:World) (h:Hp) (o:Ow) (wb:Nat) (Z6:Nat→Nat) (YA:WA) (w:Wd) (a:Ac) (dv:Value) (d:Q8 o h) (A:X4 o h wb Z6 YA w) (ok:WOk w) (hk:1≤a.kind∧a.kind≤9) (hi:a.node<5) (iv:Vz o h dv a.data) (nX:a.data.length≤140737488355328) (tb:DO o h) :
  Zc Tryz.prog T 58 #[Zp wb,.agg (WU a.kind a.node a.at' a.Zd dv).toArray] h fun v' h'=>∃o' Xq Znl,Kp WT o h o' h'∧X4 o' h' wb Znl Xq (act w a):=by
 obtain⟨pd,cd,hdv,Qk⟩:=iv.1.fits
 have EP:VF dv:=by rw[hdv];exact Qk
 subst hdv
 refine Zc.Zi (args:=[_,_]) Tryz.func58 rfl rfl rfl rfl ?_
 unfold Zp WU
 obtain⟨h1,Yw⟩:=ZA (h.push (.cells (WU a.kind a.node a.at' a.Zd (.slice pd a.data.length cd)).toArray 36):Hp)
 have k1:Kp Qh o h o h1:=by rw[Yw];exact ZY d _
 have x3:ZM o h1 h.size (.cells (WU a.kind a.node a.at' a.Zd (.slice pd a.data.length cd)).toArray 36):=⟨d _ (Nat.le_refl _),by rw[Yw];exact Zb⟩
 have e0:=Yw.symm
 unfold WU at e0
 have A1:=A.still k1
 have tb1:=tb.Zd k1
 have R1:=YS A1.wd.ZE.2
 have Rn:=R1.nodes
 obtain⟨b,off,c,hn,hc5,hb,PV⟩:=UZ A1.wd
 rw[hn]at Rn
 have GF:=Za A1.wd.ZE.2
 have q0:hc h1 ⟨h.size,0,none⟩=some (.int .i64 a.kind):=Zh x3.2
 have q1:hc h1 ⟨h.size,1,none⟩=some (.int .i64 a.node):=Zh x3.2
 have q2:hc h1 ⟨h.size,2,none⟩=some (.int .i64 a.at'):=Zh x3.2
 have q3:hc h1 ⟨h.size,3,none⟩=some (.int .i64 a.Zd):=Zh x3.2
 have q4:hc h1 ⟨h.size,4,none⟩=some (.slice pd a.data.length cd):=Zh x3.2
 have l3:=Za x3.2
 have ri:=PV a.node hi
 unfold Zp at ri
 have aC:(a.node:Int)<5:=by omega
 obtain⟨na,N1⟩:=A1.nd a.node hi
 have WX:=Za N1.ZE.2
 have rW:=iv.Zd k1
 have Kc:a.kind=1∨a.kind=2∨a.kind=3∨(a.kind=4∨a.kind=5∨a.kind=6)∨a.kind=7∨a.kind=8∨a.kind=9:=by omega
 rcases Kc with e|e|e|e|e|e|e
 ·-- a command
  have ea:act w a=VU w a.node a.data:=by unfold act;rw[if_pos e]
  rw[ea]
  rw[e]at q0
  have cs:=fU T h1 o wb Z6 YA w a.node a.data (.slice pd a.data.length cd) k1.ZX A1 hi (ok.me _ hi) rW EP nX tb1 (by have:=ok.queue _ hi;omega) (by have:=ok.log _ hi;omega) (by have:=ok.waiting _ hi;omega) (by have:=ok.told;omega) (ok.bad _ hi)
  unfold Zp at cs
  simp -implicitDefEqProofs only[go_sem,↓reduceIte,e0,q0]
  refine VS.z (h1.size) [11] (.p 0 (.p 1 (.p 2 (.p 3 (.q 4 (.p 5 (.q 6 (.p 7 (.q 8 (.p 9 (.q 10 (.w 11 .nil)))))))))))) mixed (by kernel_rfl) ?_
  simp -implicitDefEqProofs only[go_sem,↓reduceIte,Rn,q1,q4,GF,l3,hb,aC,ri]
  refine cs.use ?_
  rintro v' g ⟨o',Xq,kk,A'⟩
  simp -implicitDefEqProofs only[go_sem,↓reduceIte]
  exact⟨o',Xq,Z6,(Yc k1).trans kk,A'⟩
 ·-- to lead
  have ea:act w a=w.set a.node (lead (w.nodes a.node)):=by unfold act;rw[if_neg (by omega),if_pos e]
  rw[ea]
  rw[e]at q0
  have cs:=sV T h1 o wb a.node (Z6 a.node) na (w.nodes a.node) k1.ZX N1 (ok.Znj _ hi) (ok.rgn _ hi)
  unfold Zp at cs
  simp -implicitDefEqProofs only[go_sem,↓reduceIte,e0,q0]
  refine VS.z (h1.size) [9] (.p 0 (.p 1 (.p 2 (.p 3 (.q 4 (.p 5 (.q 6 (.p 7 (.q 8 (.w 9 .nil)))))))))) mixed (by kernel_rfl) ?_
  simp -implicitDefEqProofs only[go_sem,↓reduceIte,Rn,q1,GF,l3,hb,aC,ri]
  refine cs.use ?_
  rintro v' g ⟨o',a',kk,N'⟩
  simp -implicitDefEqProofs only[go_sem,↓reduceIte]
  exact⟨o',YA,Z6,(Yc k1).trans (Yc kk),A1.Xj (kk.mono fun t q=>.inr (.inr (.inr q))) N' (A1.wd.Zd kk fun t q e=>by rw[q]at e;cases e)⟩
 ·-- a step
  have ea:act w a=w.out a.node (step (w.nodes a.node)):=by unfold act;rw[if_neg (by omega),if_neg (by omega),if_pos e]
  rw[ea]
  rw[e]at q0
  have cs:=nf T h1 o wb a.node (Z6 a.node) Z6 na (w.nodes a.node) YA w.Zn w.bad w.told k1.ZX N1 A1.wd tb1 (ok.step _ hi)
  unfold Zp at cs
  simp -implicitDefEqProofs only[go_sem,↓reduceIte,e0,q0]
  refine VS.z (h1.size) [9] (.p 0 (.p 1 (.p 2 (.p 3 (.q 4 (.p 5 (.q 6 (.p 7 (.q 8 (.w 9 .nil)))))))))) mixed (by kernel_rfl) ?_
  simp -implicitDefEqProofs only[go_sem,↓reduceIte,Rn,q1,GF,l3,hb,aC,ri]
  refine cs.use ?_
  rintro v' g ⟨o',a',Xq,kk,N',W'⟩
  simp -implicitDefEqProofs only[go_sem,↓reduceIte]
  exact⟨o',Xq,Z6,(Yc k1).trans (Yc kk),A1.Xj kk N' W'⟩
 ·-- a letter
  have ea:act w a=pick w a.at' (decide (a.kind≠5)) (decide (a.kind=6)):=by unfold act;rw[if_neg (by omega),if_neg (by omega),if_neg (by omega),if_pos e]
  rw[ea]
  have cs:=ng T h1 o wb Z6 YA w a.at' (decide (a.kind≠5)) (decide (a.kind=6)) k1.ZX A1 ok.to (by have:=ok.room;omega) (fun j hj=>by have:=ok.inbox j hj;omega)
  unfold Zp at cs
  rcases e with e|e|e
  all_goals
   rw[e]at q0 cs ⊢
   rw[e]at e0
   simp -implicitDefEqProofs only[go_sem,↓reduceIte,e0,q0,q2]
   refine cs.use ?_
   rintro v' g ⟨o',Xq,kk,A'⟩
   simp -implicitDefEqProofs only[go_sem,↓reduceIte]
   exact⟨o',Xq,Z6,(Yc k1).trans kk,A'⟩
 ·-- all sX
  have ea:act w a=w.Zn.foldl QX { w with Zn:=[] }:=by unfold act;rw[if_neg (by omega),if_neg (by omega),if_neg (by omega),if_neg (by omega),if_pos e]
  rw[ea]
  rw[e]at q0
  have Ym:=ok.room
  obtain⟨pf,cf,hf,hfc⟩:=Vw A1.wd.Zn
  have Rf:=R1.Zn
  rw[hf]at Rf
  obtain⟨g2,w2,W2,k2⟩:=A1.wd.Ha (fl':=[]) (v:=.slice none 0 0) (Kp.refl k1.ZX (fun t=>t=.Zn)) ⟨[],rfl,Yt.nil _ _ _ _ _,fun x hx=>by cases hx⟩ (R1.GD (.slice none 0 0) rfl)
  have A2:X4 o g2 wb Z6 { YA with Zn:=.slice none 0 0 } { w with Zn:=[] }:=A1.sL k2 (by rintro t rfl;rfl) W2
  have L2:Qz o .Zn g2 (.slice pf w.Zn.length cf) w.Zn:=by rw[←hf];exact A1.wd.Zn.Zd k2 (by intro e;cases e)
  have K2:Kp WT o h o g2:=(Yc k1).trans (Yc k2)
  simp -implicitDefEqProofs only[go_sem,↓reduceIte,e0,q0,Rf,GF,w2]
  refine VS.ZW (fun F g=>F 0=.pointer (some ⟨wb,0,none⟩)∧F 118=.slice pf w.Zn.length cf∧F 119=.int .i64 w.Zn.length∧∃(j:Nat) (o':Ow),j≤w.Zn.length∧F 120=.int .i64 j∧Kp WT o h o' g∧X4 o' g wb Z6 { YA with Zn:=.slice none 0 0 } ((w.Zn.take j).foldl QX { w with Zn:=[] })∧Qz o' .Zn g (.slice pf w.Zn.length cf) w.Zn)
   (fun F _=>w.Zn.length-(vi (F 120)).toNat) rfl ⟨rfl,rfl,rfl,0,o,Nat.zero_le _,rfl,K2,A2,L2⟩ ?_
  rintro F3 g3 ⟨f0,f118,f119,j,o3,hj,f120,K3,A3,L3⟩
  by_cases ZC:j<w.Zn.length
  ·have ZL:(j:Int)<w.Zn.length:=by omega
   obtain⟨v,b3,ZyX,c3,hv,hvc,hb3,zu,iv3⟩:=bt L3 j ZC
   simp only[Value.slice.injEq]at hv
   obtain⟨rfl,_,rfl⟩:=hv
   obtain⟨l,hl⟩:=ZA (w.Zn[j])
   rw[←hl]at zu iv3
   have hU:l∈w.Zn:=by rw[hl];exact List.getElem_mem ZC
   obtain⟨pw,cw,rfl⟩:=iv3.isSlice
   obtain⟨g4,PU⟩:=ZA (g3.push (.cells (YR l (.slice pw l.vs.length cw)).toArray 163):Hp)
   have k4:Kp Qh o3 g3 o3 g4:=by rw[PU];exact ZY K3.ZX _
   have x6:ZM o3 g4 g3.size (.cells (YR l (.slice pw l.vs.length cw)).toArray 163):=⟨K3.ZX _ (Nat.le_refl _),by rw[PU];exact Zb⟩
   have e4:=PU.symm
   have r6:rd g4 ⟨g3.size,0,none⟩ 14=some (YR l (.slice pw l.vs.length cw)):=Zq x6.2 rfl
   obtain⟨wj,hwj⟩:=ZA ((w.Zn.take j).foldl QX { w with Zn:=[] })
   rw[←hwj]at A3
   have YH:(w.Zn.take (j+1)).foldl QX { w with Zn:=[] } = QX wj l:=by
    rw[Yd _ j ZC,←hl,List.foldl_append,←hwj];rfl
   have cc:=GJ T g4 o3 wb Z6 _ wj l (.slice pw l.vs.length cw) k4.ZX (A3.still k4) (iv3.Zd k4) (ok.to l hU) (fun i hi=>by
    have h1:=Dq i (w.Zn.take j) { w with Zn:=[] }
    rw[←hwj,List.length_take]at h1
    have h2:=ok.inbox i hi
    have h3:=ok.room
    have h4:(({ w with Zn:=[] }:Wd).nodes i).inbox.length=(w.nodes i).inbox.length:=rfl
    omega)
   unfold Zp YR at cc
   unfold YR at e4 r6 zu
   simp -implicitDefEqProofs only[go_sem,↓reduceIte,f0,f118,f119,f120,ZL,zu,e4,r6]
   refine cc.use ?_
   rintro v' g5 ⟨o5,k5,A5⟩
   simp -implicitDefEqProofs only[go_sem,↓reduceIte,f120]
   unfold Y9
   refine⟨⟨f0,f118,f119,j+1,o5,ZC,rfl,(K3.trans (Yc k4)).trans (Yc k5),by rw[YH];exact A5,(L3.Zd k4 (fun q=>q.elim)).Zd k5 (by rintro⟨_,e⟩;cases e)⟩,?_⟩
   simp only[vi,Zl,↓reduceIte,f120];omega
  ·have YF:¬(j:Int)<w.Zn.length:=by omega
   obtain rfl:j=w.Zn.length:=by omega
   rw[List.take_of_length_le (Nat.le_refl _)]at A3
   simp -implicitDefEqProofs only[go_sem,↓reduceIte,f119,f120,YF]
   exact⟨o3,_,Z6,K3,A3⟩
 ·-- a Zcz
  have ea:act w a=w.set a.node (crashed a.node (w.nodes a.node) a.Zd):=by unfold act;rw[if_neg (by omega),if_neg (by omega),if_neg (by omega),if_neg (by omega),if_neg (by omega),if_pos e]
  rw[ea]
  rw[e]at q0
  obtain⟨n,Is⟩:=ZA (w.nodes a.node)
  have zv:=ok.data _ hi
  rw[←Is]at N1 zv
  have P1:=Zy N1.ZE.2 N1.pt.store.len
  have P1u:=P1.up
  simp -implicitDefEqProofs only[go_sem,↓reduceIte,e0,q0]
  refine VS.mono (N:=fun F' g'=>Zg h1.size h1 g'∧F' 0=.pointer (some ⟨wb,0,none⟩)∧F' 3=.pointer (some ⟨h.size,0,none⟩)∧F' 7=.pointer (some ⟨Z6 a.node,0,none⟩)) ?_ ?_ (fun _ _ _ h=>h) (fun _ _ h=>h)
  ·refine VS.z (h1.size) [] (.p 0 (.p 1 (.p 2 (.q 3 (.p 4 (.q 5 (.p 6 (.q 7 (.p 8 .nil))))))))) mixed (by kernel_rfl) ?_
   simp -implicitDefEqProofs only[go_sem,↓reduceIte,Rn,q1,GF,l3,hb,aC,ri]
   try exact Zg.refl _ _
  rintro F2 g2 ⟨b2,f0,f3,f7⟩
  have SF:=ZD k1.ZX b2
  have A2:=A1.still SF
  have N2:=N1.still SF
  have K2:=k1.trans SF
  have y3:=x3.Zd SF
  have P2:=Zy N2.ZE.2 N2.pt.store.len
  have bq:=P2.up
  have JD:=Za N2.ZE.2
  clear P1 P1u
  cases hu:n.up with
  | false=>
   rw[hu]at bq
   have e1:crashed a.node (w.nodes a.node) a.Zd=w.nodes a.node:=by unfold crashed;rw[←Is,if_neg (by rw[hu];simp)]
   rw[e1,Dn]
   simp -implicitDefEqProofs only[go_sem,↓reduceIte,f7,bq]
   exact⟨o,YA,Z6,Yc K2,A2⟩
  | true=>
   rw[hu]at bq
   obtain⟨pt,ct,ib⟩:=N2.pt.data.1.isSlice
   have ib:na.data=.slice pt n.data.length ct:=ib
   have P2t:=P2.tape
   rw[ib]at P2t
   have ND:=N2.pt.data
   rw[ib]at ND
   obtain⟨L,Z,E,hLZ⟩:∃L Z E,TI n.data n.Xe a.Zd=(L,Z,E):=⟨_,_,_,rfl⟩
   have q3:hc g2 ⟨h.size,3,none⟩=some (.int .i64 a.Zd):=Zh y3.2
   have l3:=Za y3.2
   have call:∀G,Zg g2.size g2 G→Zc Tryz.prog T 80 #[.agg #[.slice pt n.data.length ct,.int .i64 n.Xe],.int .i64 a.Zd] G fun v' h'=>Zg G.size G h'∧ay G.size h' v' (L,Z,E):=fun G hG=>by
    rw[←hLZ];exact kr T G _ n.Xe a.Zd n.data (ND.bs.Z9 hG) (by omega)
   have wT:∀(G:Hp) (k:Nat) (m:Int) (p:Option Addr) (L c:Nat),G[k]? = some (.cells [.slice none 0 0,.int .i64 0].toArray 126)→wr G ⟨k,0,none⟩ [.slice p L c,.int .i64 m]=some (G.setIfInBounds k (.cells [.slice p L c,.int .i64 m].toArray 126)):=fun G k m p L c hx=>by
    rw[ZR hx 0 _];rfl
   rw[Ar a.node (w.nodes a.node) a.Zd L Z E (by rw[←Is];exact hu) (by rw[←Is];exact hLZ)]
   simp -implicitDefEqProofs only[go_sem,↓reduceIte,f7,bq]
   refine VS.mono (N:=fun F' g'=>F' 0=.pointer (some ⟨wb,0,none⟩)∧F' 3=.pointer (some ⟨h.size,0,none⟩)∧Zg g2.size g2 g'∧∃kt p c,F' 8=.pointer (some ⟨kt,0,none⟩)∧g'[kt]? = some (.cells [.slice p L.length c,.int .i64 Z].toArray 126)∧Vz o g' (.slice p L.length c) L) ?_ ?_ (fun _ _ _ h=>h) (fun _ _ h=>h)
   ·refine VS.z (g2.size) [6,11] (.p 0 (.p 1 (.p 2 (.q 3 (.p 4 (.q 5 (.or 6 (.p 7 (.p 8 (.p 9 (.s 10 (.w 11 (.p 12 .nil)))))) (.s 10 (.w 6 (.p 7 (.p 8 (.p 9 (.w 11 (.p 12 .nil)))))))))))))) mixed (by kernel_rfl) ?_
    simp -implicitDefEqProofs only[go_sem,↓reduceIte,f0,f3,f7,P2t,q3,JD,l3]
    repeat' (first|with_reducible exact Zg.refl _ _|with_reducible exact Zg.push (by omega) _|with_reducible refine And.intro ?_ ?_)
    all_goals first
     | (refine (call g2 (Zg.refl _ _)).use ?_
        rintro _ g5 ⟨b5,p5,c5,L',Z',E',hz,rfl,bs,nY,uO⟩
        cases hz
        have s5:=b5.size
        have kk:=ZD K2.ZX b5
        have im:Vz o g5 (.slice p5 L.length c5) L:=Kg kk.ZX bs nY fun b hb=>⟨K2.ZX b (uO b hb).1,(uO b hb).2⟩
        simp -implicitDefEqProofs only[go_sem,↓reduceIte,b5]
        exact⟨f0,f3,_,_,_,rfl,Zb,im.Zd (ZY kk.ZX _)⟩)
     | (refine (call (g2.push (.cells _ 126)) (Zg.push (Nat.le_refl _) _)).use ?_
        rintro _ g5 ⟨b5,p5,c5,L',Z',E',hz,rfl,bs,nY,uO⟩
        cases hz
        have B5:Zg g2.size g2 g5:=(Zg.push (Nat.le_refl _) _).trans (b5.mono (by simp))
        have xA:=b5.get (k:=g2.size) (by simp) Zb
        have Tb:=wT _ _ Z p5 L.length c5 xA
        have zA:=Za xA
        have kk:=ZD K2.ZX B5
        have im:Vz o g5 (.slice p5 L.length c5) L:=Kg kk.ZX bs nY fun b hb=>⟨K2.ZX b (by have:=(uO b hb).1;rw[Array.size_push]at this;omega),(uO b hb).2⟩
        have ks:=Dp kk.ZX im zA (fun b hb=>by have:=(uO b hb).1;rw[Array.size_push]at this;omega) (.cells [.slice p5 L.length c5,.int .i64 Z].toArray 126)
        simp -implicitDefEqProofs only[go_sem,↓reduceIte,B5,Tb,zA]
        exact⟨f0,f3,_,_,_,rfl,Zv xA,ks⟩)
   clear f0 f3 f7
   rintro F3 g3 ⟨f0,f3,b3,kt,p3,c3,f8,yt,im3⟩
   have U7:=ZD K2.ZX b3
   have K3:=K2.trans U7
   have A3:=A2.still U7
   have z3:=y3.Zd U7
   obtain⟨b,off,c,hn,hc5,hb,PV⟩:=UZ A3.wd
   have R3:=YS A3.wd.ZE.2
   have Rn:=R3.nodes
   rw[hn]at Rn
   have GF:=Za A3.wd.ZE.2
   have q1:hc g3 ⟨h.size,1,none⟩=some (.int .i64 a.node):=Zh z3.2
   have l3:=Za z3.2
   have rt:rd g3 ⟨kt,0,none⟩ 2=some [.slice p3 L.length c3,.int .i64 Z]:=Zq yt rfl
   have lt:=Za yt
   have cb:Zc Tryz.prog T 74 #[.int .i64 a.node,.agg #[.slice p3 L.length c3,.int .i64 Z],.agg #[.int .i64 0,.int .i64 0,.slice none 0 0]] g3 _:=Ke T g3 o wb a.node (.slice p3 L.length c3) L Z (.slice none 0 0) Jk K3.ZX im3 (Im.nil _ _ _ _)
   refine VS.z (g3.size) [12] (.p 0 (.p 1 (.p 2 (.q 3 (.p 4 (.q 5 (.p 6 (.q 7 (.q 8 (.p 9 (.s 10 (.p 11 (.w 12 .nil))))))))))))) mixed (by kernel_rfl) ?_
   simp -implicitDefEqProofs only[go_sem,↓reduceIte,f0,f3,f8,Rn,q1,rt,GF,l3,lt,hb,aC]
   refine cb.use ?_
   rintro _ g4 ⟨nb,o4,a4,rfl,b4,k4,N4⟩
   have W4:=A3.wd.Zd k4 (by rintro t (rfl|rfl)<;>simp[Tg.of])
   obtain⟨b',Zno,c',g5,SO,w5,k5,W5⟩:=Hb k4.ZX W4 a.node nb hi
   rw[hn]at SO
   simp only[Value.slice.injEq,Option.some.injEq,Addr.mk.injEq,true_and,and_true]at SO
   obtain⟨⟨rfl,rfl⟩,rfl⟩:=SO
   have hb4:b<g4.size:=Nat.lt_of_lt_of_le hb b4.size
   have N5:=N4.Zd k5 (by rintro t rfl e;cases e)
   have K5:Kp WT o h o4 g5:=((Yc K3).trans (Yc k4)).trans (Yc k5)
   have z5:=(z3.Zd k4).Zd k5
   unfold Zp at w5 ⊢
   simp -implicitDefEqProofs only[go_sem,↓reduceIte,b4,w5,hb4,aC]
   have R5:=YS W5.ZE.2
   have R5n:=R5.nodes
   rw[hn]at R5n
   obtain⟨b'',Zsv,c'',zw,_,hb5,Znp⟩:=UZ W5
   rw[hn]at zw
   simp only[Value.slice.injEq,Option.some.injEq,Addr.mk.injEq,true_and,and_true]at zw
   obtain⟨⟨rfl,rfl⟩,rfl⟩:=zw
   have ri5:=Znp a.node hi
   simp only[↓reduceIte]at ri5
   unfold Zp at ri5
   have Ap:=Za W5.ZE.2
   have ic:hc g5 ⟨h.size,1,none⟩=some (.int .i64 a.node):=Zh z5.2
   have l35:=Za z5.2
   have Ru:=Za N5.ZE.2
   obtain⟨g6,w6,N6,k6⟩:=ZV.write (n:={ blank a.node true L Z Jk with up:=false }) (a:=a4) { N5.pt with } K5.ZX N5.ZE ((YK N5.ZE.2 N5.pt.store.len).up false)
   refine VS.z (g5.size) [10] (.p 0 (.p 1 (.p 2 (.q 3 (.p 4 (.q 5 (.p 6 (.q 7 (.p 8 (.p 9 (.w 10 .nil))))))))))) mixed (by kernel_rfl) ?_
   simp -implicitDefEqProofs only[go_sem,↓reduceIte,f0,f3,R5n,ic,Ap,l35,hb5,aC,ri5,Ru,w6]
   have kk:Kp (fun t=>t=.nodes∨t.of=some a.node) o g3 o4 g6:=((k4.mono fun t q=>by rcases q with rfl|rfl<;>exact .inr rfl).trans (k5.mono fun t q=>.inl q)).trans (k6.mono fun t q=>.inr (by rw[q];rfl))
   exact⟨o4,YA,_,K5.trans (Yc k6),A3.fresh kk N6 (W5.Zd k6 (by rintro t rfl;simp[Tg.of]))⟩
 ·-- a start
  have ea:act w a=w.set a.node (started a.node (w.nodes a.node)):=by unfold act;rw[if_neg (by omega),if_neg (by omega),if_neg (by omega),if_neg (by omega),if_neg (by omega),if_neg (by omega)]
  rw[ea]
  rw[e]at q0
  obtain⟨n,Is⟩:=ZA (w.nodes a.node)
  have zv:=ok.data _ hi
  rw[←Is]at N1 zv
  simp -implicitDefEqProofs only[go_sem,↓reduceIte,e0,q0]
  refine VS.mono (N:=fun F' g'=>Zg h1.size h1 g'∧F' 0=.pointer (some ⟨wb,0,none⟩)∧F' 3=.pointer (some ⟨h.size,0,none⟩)∧F' 10=.pointer (some ⟨Z6 a.node,0,none⟩)) ?_ ?_ (fun _ _ _ h=>h) (fun _ _ h=>h)
  ·refine VS.z (h1.size) [] (.p 0 (.p 1 (.p 2 (.q 3 (.p 4 (.q 5 (.p 6 (.q 7 (.p 8 .nil))))))))) mixed (by kernel_rfl) ?_
   simp -implicitDefEqProofs only[go_sem,↓reduceIte,Rn,q1,GF,l3,hb,aC,ri]
   try exact Zg.refl _ _
  rintro F2 g2 ⟨b2,f0,f3,f10⟩
  have SF:=ZD k1.ZX b2
  have A2:=A1.still SF
  have N2:=N1.still SF
  have K2:=k1.trans SF
  have CT:=tb1.Zd SF
  have y3:=x3.Zd SF
  have P2:=Zy N2.ZE.2 N2.pt.store.len
  have bq:=P2.up
  have JD:=Za N2.ZE.2
  cases hu:n.up with
  | true=>
   rw[hu]at bq
   have e1:started a.node (w.nodes a.node)=w.nodes a.node:=by unfold started;rw[←Is,if_pos hu]
   rw[e1,Dn]
   simp -implicitDefEqProofs only[go_sem,↓reduceIte,f10,bq]
   exact⟨o,YA,Z6,Yc K2,A2⟩
  | false=>
   rw[hu]at bq
   obtain⟨pt,ct,ib,hct⟩:=N2.pt.data.1.fits
   have ib:na.data=.slice pt n.data.length ct:=ib
   have P2t:=P2.tape
   rw[ib]at P2t
   have ND:=N2.pt.data
   rw[ib]at ND
   obtain⟨D,hD⟩:=ZA (GB n.data n.Xe)
   obtain⟨Z,hZ⟩:=ZA (fq n.data n.Xe)
   obtain⟨Wc,ZeA⟩:=ZA (if YX D Z then (UX D).1 else Jk)
   have es:started a.node (w.nodes a.node)=blank a.node true D Z Wc:=by unfold started;rw[←Is,if_neg (by rw[hu];simp),ZeA,hD,hZ]
   rw[es]
   have hDl:D.length≤1000000:=by
    rw[hD];unfold GB;split
    ·rw[List.length_take];omega
    ·simp
   simp -implicitDefEqProofs only[go_sem,↓reduceIte,f10,bq,P2t]
   refine (fg T g2 _ n.Xe n.data ND.bs hct (by omega) CT.tk).use ?_
   rintro v3 g3 ⟨R3,b3⟩
   obtain⟨p3,c3,E3,rfl,o3⟩:∃p c E,v3=.tuple [.agg [.slice p D.length c,.int .i64 Z].toArray,.int .i64 E].toArray∧Z1 g2.size 5 g3 (.slice p D.length c) D:=by
    obtain⟨r,k,E,w',rfl,ob,hk,hr⟩:=R3
    have h1:(if E=0 then n.data.take k else [])=D:=by
     rw[hD];unfold GB
     split at hr
     ·rename_i q;rw[if_pos hr.1,if_pos q,Mz hr.2]
     ·rename_i q;rw[if_neg (show ¬E=0 by omega),if_neg q]
    have h2:(if E=0 then (if (k:Int)<n.Xe then (k:Int) else n.Xe) else 0)=Z:=by
     rw[hZ];unfold fq
     split at hr
     ·rename_i q;rw[if_pos hr.1,if_pos q,Mz hr.2]
     ·rename_i q;rw[if_neg (show ¬E=0 by omega),if_neg q]
    rw[h1]at ob
    rw[h2]
    obtain⟨p,c,rfl,_⟩:=ob.open
    exact⟨p,c,E,rfl,ob⟩
   have U7:=ZD K2.ZX b3
   obtain⟨g4,PU⟩:=ZA (g3.push (.cells [.slice p3 D.length c3,.int .i64 Z].toArray 126):Hp)
   have k4:Kp Qh o g2 o g4:=by rw[PU];exact U7.push _
   have x11:ZM o g4 g3.size (.cells [.slice p3 D.length c3,.int .i64 Z].toArray 126):=⟨U7.ZX _ (Nat.le_refl _),by rw[PU];exact Zb⟩
   have e4:=PU.symm
   have iD4:Vz o g4 (.slice p3 D.length c3) D:=by rw[PU];exact Vz.Zd ⟨Im.QJ o3.own (fun b hb=>K2.ZX b hb),o3.byte⟩ (ZY U7.ZX _)
   have r11:rd g4 ⟨g3.size,0,none⟩ 2=some [.slice p3 D.length c3,.int .i64 Z]:=Zq x11.2 rfl
   have tb4:=CT.Zd k4
   simp -implicitDefEqProofs only[go_sem,↓reduceIte,e4,r11]
   refine (LS T g4 _ Z D iD4.bs (by omega) tb4.tk).use ?_
   rintro v5 g5 ⟨R5,b5⟩
   obtain⟨p5,c5,E5,K5',rfl,o5⟩:∃p c E K,v5=.tuple [.agg [.int .i64 Wc.p.r,.int .i64 Wc.p.n,.slice p Wc.l.length c].toArray,.int .i64 K,.int .i64 E].toArray∧U6 o g5 (.slice p Wc.l.length c) Wc.l:=by
    obtain⟨r,k,E,w',rfl,ob,hk,_,hr⟩:=R5
    have h1:r=Wc:=by
     rw[ZeA]
     split at hr
     ·rw[if_pos (by assumption),Mz hr.2]
     ·rw[if_neg (by assumption)];exact hr.2.1
    rw[h1]at ob ⊢
    have im:U6 o g5 w' Wc.l:=Im.QJ ob.own (fun b hb=>k4.ZX b hb)
    obtain⟨p,c,rfl⟩:=im.isSlice
    exact⟨p,c,E,_,rfl,im⟩
   have I5:=ZD k4.ZX b5
   obtain⟨g6,SG⟩:=ZA (g5.push (.cells [.int .i64 Wc.p.r,.int .i64 Wc.p.n,.slice p5 Wc.l.length c5].toArray 131):Hp)
   have k6:Kp Qh o g4 o g6:=by rw[SG];exact I5.push _
   have x13:ZM o g6 g5.size (.cells [.int .i64 Wc.p.r,.int .i64 Wc.p.n,.slice p5 Wc.l.length c5].toArray 131):=⟨I5.ZX _ (Nat.le_refl _),by rw[SG];exact Zb⟩
   have e6:=SG.symm
   have K6:Kp Qh o h o g6:=(K2.trans k4).trans k6
   have iD6:=iD4.Zd k6
   have iV6:U6 o g6 (.slice p5 Wc.l.length c5) Wc.l:=by rw[SG];exact o5.Zd (ZY I5.ZX _)
   have A6:=(A2.still k4).still k6
   have z3:=(y3.Zd k4).Zd k6
   have z11:=x11.Zd k6
   clear hn hc5 hb PV Rn GF q1 l3 ri
   obtain⟨b,off,c,hn,hc5,hb,PV⟩:=UZ A6.wd
   have R6:=YS A6.wd.ZE.2
   have Rn:=R6.nodes
   rw[hn]at Rn
   have GF:=Za A6.wd.ZE.2
   have q1:hc g6 ⟨h.size,1,none⟩=some (.int .i64 a.node):=Zh z3.2
   have l3:=Za z3.2
   have rt:rd g6 ⟨g3.size,0,none⟩ 2=some [.slice p3 D.length c3,.int .i64 Z]:=Zq z11.2 rfl
   have lt:=Za z11.2
   have ra:rd g6 ⟨g5.size,0,none⟩ 3=some [.int .i64 Wc.p.r,.int .i64 Wc.p.n,.slice p5 Wc.l.length c5]:=Zq x13.2 rfl
   have la:=Za x13.2
   have cb:=Ke T g6 o wb a.node (.slice p3 D.length c3) D Z (.slice p5 Wc.l.length c5) Wc K6.ZX iD6 iV6
   simp -implicitDefEqProofs only[go_sem,↓reduceIte,e6]
   refine VS.z (g6.size) [12] (.p 0 (.p 1 (.p 2 (.q 3 (.p 4 (.q 5 (.p 6 (.q 7 (.q 8 (.q 9 (.s 10 (.p 11 (.w 12 .nil))))))))))))) mixed (by kernel_rfl) ?_
   simp -implicitDefEqProofs only[go_sem,↓reduceIte,f0,f3,Rn,q1,rt,ra,GF,l3,lt,la,hb,aC]
   refine cb.use ?_
   rintro _ g7 ⟨nb,o7,a7,rfl,b7,k7,N7⟩
   have W7:=A6.wd.Zd k7 (by rintro t (rfl|rfl)<;>simp[Tg.of])
   obtain⟨b',Zno,c',g8,SO,w8,k8,W8⟩:=Hb k7.ZX W7 a.node nb hi
   rw[hn]at SO
   simp only[Value.slice.injEq,Option.some.injEq,Addr.mk.injEq,true_and,and_true]at SO
   obtain⟨⟨rfl,rfl⟩,rfl⟩:=SO
   have hb7:b<g7.size:=Nat.lt_of_lt_of_le hb b7.size
   have N8:=N7.Zd k8 (by rintro t rfl e;cases e)
   have K8:Kp WT o h o7 g8:=((Yc K6).trans (Yc k7)).trans (Yc k8)
   unfold Zp at w8 ⊢
   simp -implicitDefEqProofs only[go_sem,↓reduceIte,b7,w8,hb7,aC]
   have kk:Kp (fun t=>t=.nodes∨t.of=some a.node) o g6 o7 g8:=(k7.mono fun t q=>by rcases q with rfl|rfl<;>exact .inr rfl).trans (k8.mono fun t q=>.inl q)
   exact⟨o7,YA,_,K8,A6.fresh kk N8 W8⟩
def Ki (Z6:Nat→Nat) (j:Nat):List Value:=(List.range j).map fun i=>Zp (Z6 i)
theorem Ax (Z6:Nat→Nat) (j:Nat):Ki Z6 (j+1)=Ki Z6 j++[Zp (Z6 j)]:=by
 unfold Ki;rw[List.range_succ,List.map_append];rfl
theorem Ay (Z6:Nat→Nat) (j nb:Nat):Ki (fun i=>if i=j then nb else Z6 i) j=Ki Z6 j:=by
 unfold Ki
 apply List.map_congr_left
 intro i hi
 rw[List.mem_range]at hi
 simp only
 rw[if_neg (by omega)]
set_option maxHeartbeats 4000000 in
theorem ny (T:World) (h:Hp) (o:Ow) (d:Q8 o h) :
  Zc Tryz.prog T 57 #[] h fun v' h'=>∃wb Z6 o' YA,v'=Zp wb∧Kp WT o h o' h'∧X4 o' h' wb Z6 YA TY:=by
 refine Zc.Zi (args:=[]) Tryz.func57 rfl rfl rfl rfl ?_
 obtain⟨wb,zy⟩:=ZA (h.size)
 obtain⟨g1,Oa⟩:∃g1:Hp,g1=h.push (.cells (Y6 (fun _=>0) ⟨.slice none 0 0,.slice none 0 0,.slice none 0 0⟩).toArray 123):=⟨_,rfl⟩
 have e1:=Oa.symm
 unfold Y6 at e1
 simp only at e1
 have k1:Kp WT o h (Jj o wb .world) g1:=by rw[Oa,zy];exact ((Kp.refl d WT).push _).Ty (Nat.le_refl _) (by simp) trivial
 have B1:QA (Jj o wb .world) .world g1 wb (.cells (Y6 (fun _=>0) ⟨.slice none 0 0,.slice none 0 0,.slice none 0 0⟩).toArray 123):=⟨YT,by rw[Oa,zy];exact Zb⟩
 simp -implicitDefEqProofs only[go_sem,↓reduceIte,e1]
 rw[←zy]
 refine VS.ZW (fun F g=>F 1=.pointer (some ⟨wb,0,none⟩)∧∃(j:Nat) (o':Ow) (Z6:Nat→Nat) (v:Value),j≤5∧F 5=.int .i64 j∧Kp WT o h o' g∧QA o' .world g wb (.cells (Y6 (fun _=>0) ⟨v,.slice none 0 0,.slice none 0 0⟩).toArray 123)∧Yt o' .nodes 124 1 g v j (Ki Z6 j)∧∀i,i<j→∃a,ZJ o' g wb i (Z6 i) a (blank i true [] 0 Jk))
  (fun F _=>5-(vi (F 5)).toNat) rfl ⟨rfl,0,_,fun _=>0,.slice none 0 0,by omega,rfl,k1,B1,Yt.nil _ _ _ _ _,fun i hi=>by omega⟩ ?_
 clear B1 k1 e1 Oa
 rintro F2 g2 ⟨f1,j,o2,Z6,v,hj,f5,K2,B2,O2,N2⟩
 by_cases ZC:j<5
 ·have ZL:(j:Int)<5:=by omega
  obtain⟨pv,cv,rfl,_⟩:=O2.isSlice
  have R2:=YS B2.2
  have Rn:=R2.nodes
  simp only at Rn
  have GF:=Za B2.2
  have cb:Zc Tryz.prog T 74 #[.int .i64 j,.agg #[.slice none 0 0,.int .i64 0],.agg #[.int .i64 0,.int .i64 0,.slice none 0 0]] g2 _:=Ke T g2 o2 wb j (.slice none 0 0) [] 0 (.slice none 0 0) Jk K2.ZX ⟨Im.nil _ _ _ _,fun x hx=>by cases hx⟩ (Im.nil _ _ _ _)
  simp -implicitDefEqProofs only[go_sem,↓reduceIte,f1,f5,ZL]
  refine VS.z (g2.size) [10,13] (.p 0 (.p 1 (.p 2 (.p 3 (.q 4 (.p 5 (.p 6 (.p 7 (.s 8 (.s 9 (.w 10 (.p 11 (.p 12 (.w 13 .nil)))))))))))))) mixed (by kernel_rfl) ?_
  simp -implicitDefEqProofs only[go_sem,↓reduceIte,f1,f5,Rn,GF]
  refine cb.use ?_
  rintro _ g3 ⟨nb,o3,a3,rfl,b3,k3,N3⟩
  unfold Zp
  simp -implicitDefEqProofs only[go_sem,↓reduceIte,b3]
  obtain⟨g4,PU⟩:=ZA (g3.push (.cells [Zp nb].toArray 124):Hp)
  have e4:=PU.symm
  unfold Zp at e4
  rw[e4]
  have k4:Kp Qh o3 g3 o3 g4:=by rw[PU];exact ZY k3.ZX _
  have B4:=(B2.Zd k3 (by rintro (e|e)<;>cases e)).Zd k4 (fun q=>q)
  have O4:=(O2.Zd k3 (by rintro (e|e)<;>cases e)).Zd k4 (fun q=>q)
  have N4:=N3.still k4
  have M4:∀i,i<j→∃a,ZJ o3 g4 wb i (Z6 i) a (blank i true [] 0 Jk):=fun i hi=>by
   obtain⟨a,N⟩:=N2 i hi
   refine⟨a,(N.Zd k3 ?_).still k4⟩
   rintro t (rfl|rfl) e
   ·have:=Option.some.inj e;omega
   ·have:=Option.some.inj e;omega
  have x4:g4[g3.size]? = some (.cells [Zp nb].toArray 124):=by rw[PU];exact Zb
  have src:Sl 1 g4 (.slice (some ⟨g3.size,0,none⟩) 1 1) 1 [Zp nb]:=⟨_,1,rfl,rfl,fun _=>⟨g3.size,0,rfl,fun i hi=>by
   rw[Zh x4,Yk,Nat.zero_add];exact List.getElem?_eq_getElem hi⟩⟩
  refine XQ (E:=124) (n:=1) (bytes:=8) (k:=1) wX Tryz.underlying120 Zca Zcc rfl Zcb O4 k4.ZX src rfl (by omega) (by omega) ?_
  intro v' o5 g5 O5 k5 _
  have k5:Kp (fun u=>u=.nodes) o3 g4 o5 g5:=k5
  obtain⟨p5,c5,rfl,_⟩:=O5.isSlice
  have B5:=B4.Zd k5 (by intro e;cases e)
  have w5:=(YS B5.2).yL (.slice p5 (j+1) c5) rfl
  have Ap:=Za B5.2
  obtain⟨g6,SG⟩:∃g6,g6=g5.setIfInBounds wb (.cells (Y6 (fun _=>0) ⟨.slice p5 (j+1) c5,.slice none 0 0,.slice none 0 0⟩).toArray 123):=⟨_,rfl⟩
  simp only at w5
  rw[←SG]at w5
  have k6:Kp (fun t=>t=.world) o5 g5 o5 g6:=by rw[SG];exact (Kp.refl k5.ZX (fun t=>t=.world)).set B5.1 rfl _
  have B6:QA o5 .world g6 wb (.cells (Y6 (fun _=>0) ⟨.slice p5 (j+1) c5,.slice none 0 0,.slice none 0 0⟩).toArray 123):=⟨B5.1,by rw[SG];exact Zv B5.2⟩
  have K6:Kp WT o h o5 g6:=(((K2.trans (Yc k3)).trans (Yc k4)).trans (Yc k5)).trans (Yc k6)
  simp -implicitDefEqProofs only[go_sem,↓reduceIte,w5,Ap,f5]
  unfold Y9
  refine⟨⟨f1,j+1,o5,(fun i=>if i=j then nb else Z6 i),.slice p5 (j+1) c5,ZC,rfl,K6,B6,?_,fun i hi=>?_⟩,?_⟩
  ·rw[Ax,Ay]
   simp only[↓reduceIte]
   exact O5.Zd k6 (by intro e;cases e)
  ·by_cases e:i=j
   ·subst e
    refine⟨a3,?_⟩
    simp only[↓reduceIte]
    exact (N4.Zd k5 (by rintro t rfl e;cases e)).Zd k6 (by rintro t rfl e;cases e)
   ·obtain⟨a,N⟩:=M4 i (by omega)
    refine⟨a,?_⟩
    simp only[if_neg e]
    exact (N.Zd k5 (by rintro t rfl e;cases e)).Zd k6 (by rintro t rfl e;cases e)
  ·simp only[vi,Zl,↓reduceIte,f5];omega
 ·have YF:¬(j:Int)<5:=by omega
  obtain rfl:j=5:=by omega
  simp -implicitDefEqProofs only[go_sem,↓reduceIte,f1,f5,YF]
  exact⟨wb,Z6,o2,_,rfl,K2,⟨B2,O2,⟨[],rfl,Yt.nil _ _ _ _ _,fun x hx=>by cases hx⟩,Yt.nil _ _ _ _ _⟩,fun i hi=>N2 i hi⟩
theorem Az (T:World) (h:Hp) (u:Value) (l:List Cm) (s:Ts Qd.C 5 h u l) (hl:l.length≤2199023255552) :
  Zc Tryz.prog T 59 #[u] h fun v' h'=>X9 h.size 47 Qd.C 5 h' v' l∧Zg h.size h h':=by
 obtain⟨p,c,rfl,Ur⟩:=Jw s
 refine Zc.Zi (args:=[_]) Tryz.func59 rfl rfl rfl rfl ?_
 cases p with
 | none=>
  have:l=[]:=by
   cases l with
   | nil=>rfl
   | cons x l=>obtain⟨b,o,hp,_⟩:=Ur (by simp);cases hp
  subst this
  simp -implicitDefEqProofs only[go_sem,↓reduceIte]
  exact X9.nil _ _ _ _ _
 | some a=>
  simp -implicitDefEqProofs only[go_sem,↓reduceIte]
  refine Sh (E:=47) (B:=h.size) (n:=5) (bytes:=40) FL Tryz.underlying37 wU jW rfl Zb9 (fun _=>rfl) (X9.KI _ _ Qd.C 5 _ _) (by simp) (s.Z9 (Zg.push (Nat.le_refl _) _)) (by simp;omega) (by omega) ?_
  intro v' h' ho hb _
  simp -implicitDefEqProofs only[go_sem,↓reduceIte]
  exact⟨by simpa using ho,(Zg.push (Nat.le_refl _) _).trans hb⟩
structure Raw where
 k:Int
 n:Int
 a:Int
 b:Int
 data:List Nat
def Raw.ac (x:Raw):Ac:=⟨x.k,x.n.toNat,x.a.toNat,x.b,x.data⟩
def Raw.err (x:Raw):Int:=Qn x.k x.n x.a x.b x.data.length
def X6 (x:Raw × Value):List Value:=WU x.1.k x.1.n x.1.a x.1.b x.2
def JE:List Raw→Int
 | []=>0
 | x :: l=>if x.err≠0 then x.err else JE l
def WV (l:List Raw):Int:=if 100000<l.length then 1 else JE l
theorem Du (x:Raw × Value):(X6 x).length=5:=rfl
theorem Kj {l:List Raw} {j:Nat} (hj:j<l.length) (h0:∀x∈l.take j,x.err=0) (h1:l[j].err≠0):JE l=l[j].err:=by
 induction l generalizing j with
 | nil=>simp at hj
 | cons y l ih=>
  cases j with
  | zero=>unfold JE;rw[if_pos (by simpa using h1)];rfl
  | succ j=>
   unfold JE
   rw[if_neg (by simpa using h0 y (by simp))]
   exact ih (by simpa using hj) (fun x hx=>h0 x (by simp[hx])) (by simpa using h1)
theorem T3 {l:List Raw} (h0:∀x∈l,x.err=0):JE l=0:=by
 induction l with
 | nil=>rfl
 | cons y l ih=>unfold JE;rw[if_neg (by simpa using h0 y (by simp))];exact ih fun x hx=>h0 x (by simp[hx])
theorem AA {x:Raw} (h:x.err=0):(1≤x.k∧x.k≤9)∧(0≤x.n∧x.n≤4)∧(0≤x.a∧x.a≤1048576)∧(0≤x.b∧x.b≤100000)∧x.data.length≤2000:=by
 unfold Raw.err Qn at h
 by_cases c1:1≤x.k∧x.k≤9
 case neg=>rw[if_pos c1]at h;cases h
 rw[if_neg (by simpa using c1)]at h
 by_cases c2:(YI x.k∧¬(0≤x.n∧x.n≤4))∨(Je x.k∧¬(0≤x.a∧x.a≤1048576))∨(x.k=8∧¬(0≤x.b∧x.b≤100000))
 ·rw[if_pos c2]at h;cases h
 rw[if_neg c2]at h
 by_cases c3:2000<x.data.length
 ·rw[if_pos c3]at h;cases h
 rw[if_neg c3]at h
 by_cases c4:(¬YI x.k∧x.n≠0)∨(¬Je x.k∧x.a≠0)∨(x.k≠8∧x.b≠0)∨(x.k≠1∧0<x.data.length)
 ·rw[if_pos c4]at h;cases h
 refine⟨c1,?_,?_,?_,by omega⟩
 ·by_cases q:YI x.k
  ·exact Classical.byContradiction fun e=>c2 (.inl ⟨q,e⟩)
  ·have:x.n=0:=Classical.byContradiction fun e=>c4 (.inl ⟨q,e⟩)
   omega
 ·by_cases q:Je x.k
  ·exact Classical.byContradiction fun e=>c2 (.inr (.inl ⟨q,e⟩))
  ·have:x.a=0:=Classical.byContradiction fun e=>c4 (.inr (.inl ⟨q,e⟩))
   omega
 ·by_cases q:x.k=8
  ·exact Classical.byContradiction fun e=>c2 (.inr (.inr ⟨q,e⟩))
  ·have:x.b=0:=Classical.byContradiction fun e=>c4 (.inr (.inr (.inl ⟨q,e⟩)))
   omega
def YM (xs:List (Raw × Value)):List Raw:=xs.map (·.1)
def SI:Ow:=fun _=>none
theorem OM (h:Hp):Q8 SI h:=fun _ _=>rfl
theorem T4 {S:Tg→Prop} {h h':Hp} {o':Ow} (k:Kp S SI h o' h'):Zg h.size h h':=
 ⟨k.size,fun b hb=>(k.Zd b hb fun t ht=>by cases ht).1⟩
def ie:List Value:=[.int .i64 0,.bool false,.bool false,.bool false,.bool false,.bool false,.slice none 0 0,.int .i64 0,.int .i64 0,.int .i64 0,.int .i64 0,.int .i64 0,.slice none 0 0]
def gd (w:Wd) (lv tv:Value):List Value:=[.int .i64 w.Zn.length,.bool (w.nodes 0).up,.bool (w.nodes 1).up,.bool (w.nodes 2).up,.bool (w.nodes 3).up,.bool (w.nodes 4).up,lv,.int .i64 (w.bad 0),.int .i64 (w.bad 1),.int .i64 (w.bad 2),.int .i64 (w.bad 3),.int .i64 (w.bad 4),tv]
structure nz (h:Hp) (R:List Value) (w:Wd) (lv tv:Value) (vs:List Value):Prop where
 cells:R=gd w lv tv
 zC:Ts (fun v=>[v]) 1 h lv vs
 each:FJ (fun v l=>Ts Qd.C 5 h v l) vs [(w.nodes 0).log,(w.nodes 1).log,(w.nodes 2).log,(w.nodes 3).log,(w.nodes 4).log]
 told:Ts L0 5 h tv w.told
 Zy7:FJ (fun v (l:List Cm)=>∃p c,v=.slice p l.length c∧l.length≤c) vs [(w.nodes 0).log,(w.nodes 1).log,(w.nodes 2).log,(w.nodes 3).log,(w.nodes 4).log]
def Uj (B:Nat) (h:Hp) (R:List Value) (w:Wd) (lv tv:Value) (vs:List Value):Prop:=∀G:Hp,(∀b,B≤b→b<h.size→G[b]? = h[b]?)→nz G R w lv tv vs
theorem Uj.at {B:Nat} {h:Hp} {R:List Value} {w:Wd} {lv tv:Value} {vs:List Value} (s:Uj B h R w lv tv vs):nz h R w lv tv vs:=s h fun _ _ _=>rfl
theorem Uj.Z9 {B:Nat} {h h':Hp} {R:List Value} {w:Wd} {lv tv:Value} {vs:List Value} (s:Uj B h R w lv tv vs) (b:Zg h.size h h'):Uj B h' R w lv tv vs:=
 fun G hG=>s G fun k h1 h2=>by rw[hG k h1 (Nat.lt_of_lt_of_le h2 b.size)];exact b.block k h2
theorem Uj.set {B:Nat} {h:Hp} {R:List Value} {w:Wd} {lv tv:Value} {vs:List Value} (s:Uj B h R w lv tv vs) {k:Nat} (hk:k<B) (x:Obj):Uj B (h.setIfInBounds k x) R w lv tv vs:=
 fun G hG=>s G fun b h1 h2=>by rw[hG b h1 (by simpa using h2),Array.getElem?_setIfInBounds,if_neg (by omega)]
def Hf (B:Nat) (h':Hp) (v':Value) (l:List Raw):Prop:=
 if WV l=0 then ∃R lv tv vs,v'=.tuple #[.agg R.toArray,.int .i64 0]∧Uj B h' R (SE (l.map Raw.ac)) lv tv vs
 else v'=.tuple #[.agg ie.toArray,.int .i64 (WV l)]
theorem Hg {h:Hp} {v:Value} {l:List (Raw × Value)} (s:Ts X6 5 h v l):∃p c,v=.slice p l.length c∧(l≠[]→∃b o,p=some ⟨b,o,none⟩∧b<h.size∧∀i (hi:i<l.length),rd h ⟨b,o+i*5,none⟩ 5=some (X6 l[i])):=by
 obtain⟨p,c,hv,hh⟩:=s.open Du (by decide)
 refine⟨p,c,hv,fun Ys=>?_⟩
 obtain⟨b,o,h1,h2,h3⟩:=hh Ys
 exact⟨b,o,h1,h2,fun i hi=>(h3 i hi).rd (by simp[X6,WU]) rfl⟩
def Dv (w:Wd) (j:Nat) (lv tv:Value):List Value:=[.int .i64 w.Zn.length,.bool (if 0<j then (w.nodes 0).up else false),.bool (if 1<j then (w.nodes 1).up else false),.bool (if 2<j then (w.nodes 2).up else false),.bool (if 3<j then (w.nodes 3).up else false),.bool (if 4<j then (w.nodes 4).up else false),lv,.int .i64 (w.bad 0),.int .i64 (w.bad 1),.int .i64 (w.bad 2),.int .i64 (w.bad 3),.int .i64 (w.bad 4),tv]
theorem bE (w:Wd) (j:Nat) (lv tv:Value):(Dv w j lv tv).length=13:=rfl
theorem zD (w:Wd) (j:Nat) (lv tv:Value) (hj:j<5):(Dv w j lv tv).set (1+j) (.bool (w.nodes j).up)=Dv w (j+1) lv tv:=by
 match j,hj with
 | 0,_=>rfl
 | 1,_=>rfl
 | 2,_=>rfl
 | 3,_=>rfl
 | 4,_=>rfl
theorem tD (w:Wd) (j:Nat) (lv lv' tv:Value):(Dv w j lv tv).set 6 lv'=Dv w j lv' tv:=rfl
def ON (w:Wd) (j:Nat):List (List Cm):=(List.range j).map fun i=>(w.nodes i).log
theorem Dw (w:Wd) (j:Nat):ON w (j+1)=ON w j++[(w.nodes j).log]:=by
 unfold ON;rw[List.range_succ,List.map_append];rfl
def AB (t:Tg):Prop:=t=.log 100∨t=.log 101
theorem PZ {α β:Type} {R R':α→β→Prop} {l:List α} {k:List β} (s:FJ R l k) (h:∀x y,R x y→R' x y):FJ R' l k:=by
 induction s with
 | nil=>exact .nil
 | cons a _ ih=>exact .cons (h _ _ a) ih
theorem gf (l:List Value):Zz (fun v=>[v]) l=l:=by
 induction l with
 | nil=>rfl
 | cons x l ih=>
  have:Zz (fun v=>[v]) (x :: l)=[x]++Zz (fun v=>[v]) l:=by simp[Zz]
  rw[this,ih];rfl
theorem nA {o:Ow} {t:Tg} {E:TypeId} {n m b:Nat} {h:Hp} {v:Value} {cs:List Value} (s:Yt o t E n h v m cs) (hb:ZN v=some b):o b=some t:=by
 rcases s with⟨⟨q,rfl⟩,_,_⟩|⟨b',j,cap,pre,spare,h1,rfl,h3,h4,h5,h6,h7⟩
 ·cases q<;>simp[ZN]at hb
 ·unfold ZN at hb
  simp only at hb
  split at hb
  ·cases hb
  ·have:=Option.some.inj hb
   rw[←this];exact h1
theorem bF {o:Ow} {t:Tg} {E:TypeId} {n m:Nat} {h G:Hp} {v:Value} {cs:List Value} (s:Yt o t E n h v m cs) (hG:∀b,o b=some t→b<h.size→G[b]? = h[b]?):Yt o t E n G v m cs:=by
 rcases s with s|⟨b',j,cap,pre,spare,h1,rfl,h3,h4,h5,h6,h7⟩
 ·exact .inl s
 ·exact .inr ⟨b',j,cap,pre,spare,h1,rfl,by rw[hG b' h1 (Za h3)];exact h3,h4,h5,h6,h7⟩
theorem ZeB {o:Ow} {n m:Nat} {h G:Hp} {v:Value} {cs:List Value} (s:Im o n h v m cs) (hG:∀b,ZN v=some b→b<h.size→G[b]? = h[b]?):Sl n G v m cs:=by
 obtain⟨⟨p,c,rfl,hl,nY⟩,⟨p',c',he,hm⟩,hf⟩:=s
 simp only[Value.slice.injEq,true_and]at he
 obtain⟨rfl,rfl⟩:=he
 refine⟨p,c,rfl,hl,fun Ys=>?_⟩
 obtain⟨b,off,rfl,YO⟩:=nY Ys
 have AZ:c≠0:=by
  intro e
  have:m=0:=by omega
  rw[this,Nat.zero_mul]at hl
  exact Ys (List.eq_nil_of_length_eq_zero hl)
 have hb:ZN (.slice (some ⟨b,off,none⟩) m c)=some b:=by unfold ZN;simp only;rw[if_neg AZ]
 refine⟨b,off,rfl,fun i hi=>?_⟩
 have h1:=YO i hi
 have h2:=hG b hb (hf b hb).1
 unfold V.hc at h1 ⊢
 rw[h2];exact h1
theorem Dx {S:Tg→Prop} {h h':Hp} {o':Ow} {t:Tg} {b:Nat} (k:Kp S SI h o' h') (hb:o' b=some t):h.size≤b:=by
 refine Classical.byContradiction fun q=>?_
 obtain⟨_,h2⟩:=k.Zd b (by omega) (fun t ht=>by cases ht)
 rw[hb]at h2;cases h2
set_option maxHeartbeats 8000000 in
theorem tE (T:World) (h:Hp) (v:Value) (xs:List (Raw × Value)) (hv:Ts X6 5 h v xs) (hx:∀x∈xs,Vz SI h x.2 x.1.data) (tb:DO SI h) (GV:xs.length≤4611686018427387904)
  (inv:(∀x∈YM xs,x.err=0)→xs.length≤100000→∀j,j≤xs.length→WOk (SE (((YM xs).take j).map Raw.ac))) :
  Zc Tryz.prog T 37 #[v] h fun v' h'=>Zg h.size h h'∧Hf h.size h' v' (YM xs):=by
 obtain⟨p,c,rfl,YO⟩:=Hg hv
 refine Zc.XI (args:=[_]) Tryz.func37 rfl rfl rfl rfl ?_
 obtain⟨h1,Yw⟩:=ZA (h.push (.cells ie.toArray 33):Hp)
 have e1:=Yw.symm
 unfold ie at e1
 have b1:Zg h.size h h1:=by rw[Yw];exact Zg.push (Nat.le_refl _) _
 have s1:h1.size=h.size+1:=by rw[Yw];simp
 have x2:h1[h.size]? = some (.cells ie.toArray 33):=by rw[Yw];exact Zb
 have rl:(YM xs).length=xs.length:=by unfold YM;simp
 have rz:∀G:Hp,Zg h1.size h1 G→G[h.size]? = some (.cells ie.toArray 33):=fun G hG=>hG.get (by omega) x2
 have wz:∀G:Hp,Zg h1.size h1 G→wr G ⟨h.size,0,none⟩ [.int .i64 0,.bool false,.bool false,.bool false,.bool false,.bool false,.slice none 0 0,.int .i64 0,.int .i64 0,.int .i64 0,.int .i64 0,.int .i64 0,.slice none 0 0]=some G:=fun G hG=>by
  rw[ZR (rz G hG) 0 _]
  have:(G.setIfInBounds h.size (.cells (Yn ie 0 [.int .i64 0,.bool false,.bool false,.bool false,.bool false,.bool false,.slice none 0 0,.int .i64 0,.int .i64 0,.int .i64 0,.int .i64 0,.int .i64 0,.slice none 0 0]).toArray 33))=G:=Px (rz G hG)
  rw[if_pos ⟨by simp[ie],rfl⟩]
  exact congrArg some this
 have rr:∀G:Hp,Zg h1.size h1 G→rd G ⟨h.size,0,none⟩ 13=some [.int .i64 0,.bool false,.bool false,.bool false,.bool false,.bool false,.slice none 0 0,.int .i64 0,.int .i64 0,.int .i64 0,.int .i64 0,.int .i64 0,.slice none 0 0]:=fun G hG=>Zq (rz G hG) rfl
 have w0:=wz h1 (Zg.refl _ _)
 have r0:=rr h1 (Zg.refl _ _)
 have l0:=Za x2
 by_cases vA:100000<xs.length
 ·have nC:(xs.length:Int)>100000:=by omega
  have e2:WV (YM xs)=1:=by unfold WV;rw[rl,if_pos vA]
  simp -implicitDefEqProofs only[go_sem,↓reduceIte,e1,nC,w0,r0]
  refine⟨b1,?_⟩
  unfold Hf
  rw[e2,if_neg (by decide)]
  rfl
 have nC:¬(xs.length:Int)>100000:=by omega
 have zE:xs.length≤100000:=by omega
 have e2:WV (YM xs)=JE (YM xs):=by unfold WV;rw[rl,if_neg vA]
 have GM:∀i (hi:i<xs.length),(YM xs)[i]'(by rw[rl];exact hi)=xs[i].1:=fun i hi=>by unfold YM;simp
 simp -implicitDefEqProofs only[go_sem,↓reduceIte,e1,nC]
 refine VS.ZW (fun F g=>F 0=.slice p xs.length c∧F 2=.pointer (some ⟨h.size,0,none⟩)∧F 17=.slice p xs.length c∧F 18=.int .i64 xs.length∧Zg h1.size h1 g∧∃j:Nat,j≤xs.length∧F 19=.int .i64 j∧∀x∈(YM xs).take j,x.err=0)
  (fun F _=>xs.length-(vi (F 19)).toNat) rfl ⟨rfl,rfl,rfl,rfl,Zg.refl _ _,0,Nat.zero_le _,rfl,fun x hx=>by simp at hx⟩ ?_
 rintro F2 g2 ⟨f0,f2,f17,f18,b2,j,hj,f19,hz⟩
 by_cases ZC:j<xs.length
 ·have ZL:(j:Int)<xs.length:=by omega
  obtain⟨bb,oo,rfl,UP,PV⟩:=YO (by intro e;rw[e]at ZC;simp at ZC)
  obtain⟨x,TJ⟩:=ZA (xs[j])
  have oK:x∈xs:=by rw[TJ];exact List.getElem_mem ZC
  have iv:=hx x oK
  obtain⟨pd,cd,Ob⟩:=iv.1.isSlice
  have r1:rd g2 ⟨bb,oo+j*5,none⟩ 5=some (X6 x):=by rw[JI (b1.trans (b2.mono (by omega))) UP,TJ];exact PV j ZC
  unfold X6 WU at r1
  rw[Ob]at r1
  obtain⟨g3,Ah⟩:=ZA (g2.push (.cells (WU x.1.k x.1.n x.1.a x.1.b (.slice pd x.1.data.length cd)).toArray 36):Hp)
  have e3:=Ah.symm
  have y3:g3[g2.size]? = some (.cells (WU x.1.k x.1.n x.1.a x.1.b (.slice pd x.1.data.length cd)).toArray 36):=by rw[Ah];exact Zb
  have r3:rd g3 ⟨g2.size,0,none⟩ 5=some (WU x.1.k x.1.n x.1.a x.1.b (.slice pd x.1.data.length cd)):=Zq y3 rfl
  unfold WU at e3 r3
  have b3:Zg h1.size h1 g3:=by rw[Ah];exact b2.Yh b2.size _
  have ck:=KU T g3 x.1.k x.1.n x.1.a x.1.b pd x.1.data.length cd
  unfold Lu at ck
  simp -implicitDefEqProofs only[go_sem,↓reduceIte,f0,f2,f17,f18,f19,ZL,r1,e3,r3]
  refine ck.use ?_
  rintro _ g4 ⟨rfl,b4⟩
  have B4:Zg h1.size h1 g4:=b3.trans (b4.mono b3.size)
  have exr:x.1.err=Qn x.1.k x.1.n x.1.a x.1.b x.1.data.length:=rfl
  rw[←exr]
  by_cases hex:x.1.err=0
  ·simp -implicitDefEqProofs only[go_sem,↓reduceIte,hex,f19]
   unfold Y9
   refine⟨⟨f0,f2,f17,f18,B4,j+1,ZC,rfl,fun y hy=>?_⟩,?_⟩
   ·rw[Yd _ j (by rw[rl];exact ZC),List.mem_append]at hy
    rcases hy with hy|hy
    ·exact hz y hy
    ·rw[GM j ZC,←TJ]at hy
     have:y=x.1:=by simpa using hy
     rw[this];exact hex
   ·simp only[vi,Zl,↓reduceIte,f19];omega
  ·have w4:=wz g4 B4
   have r4:=rr g4 B4
   have l4:=Za (rz g4 B4)
   simp -implicitDefEqProofs only[go_sem,↓reduceIte,hex,w4,r4,f2,l4]
   refine⟨b1.trans (B4.mono (by omega)),?_⟩
   unfold Hf
   have:JE (YM xs)=x.1.err:=by
    have:=Kj (l:=YM xs) (j:=j) (by rw[rl];exact ZC) hz (by rw[GM j ZC,←TJ];exact hex)
    rw[this,GM j ZC,←TJ]
   rw[e2,this,if_neg hex]
   rfl
 have YF:¬(j:Int)<xs.length:=by omega
 obtain rfl:j=xs.length:=by omega
 have Y3:∀x∈YM xs,x.err=0:=fun x hx=>hz x (by rw[List.take_of_length_le (by omega)];exact hx)
 have hzero:WV (YM xs)=0:=by rw[e2];exact T3 Y3
 have inv:=inv Y3 zE
 simp -implicitDefEqProofs only[go_sem,↓reduceIte,f18,f19,YF]
 refine (ny T g2 SI (OM g2)).use ?_
 rintro _ g3 ⟨wb,Znr,o3,oH,rfl,K3,A3⟩
 unfold Zp
 have bh2:Zg h.size h g2:=b1.trans (b2.mono (by omega))
 have kh2:Kp WT SI h SI g2:=Kp.Le (OM h) bh2 _
 obtain⟨vm,tF⟩:=ZA ((YM xs).map Raw.ac)
 have ZeC:vm.length=xs.length:=by rw[tF,List.length_map,rl]
 have inv:∀j,j≤xs.length→WOk (SE (vm.take j)):=fun j hj=>by
  have:=inv j hj
  rw[tF,←List.map_take];exact this
 simp -implicitDefEqProofs only[go_sem,↓reduceIte,f0,f2]
 refine VS.ZW (fun F g=>F 2=.pointer (some ⟨h.size,0,none⟩)∧F 7=.pointer (some ⟨wb,0,none⟩)∧F 31=.slice p xs.length c∧F 32=.int .i64 xs.length∧∃(j:Nat) (o':Ow) (Z6:Nat→Nat) (Xq:WA),j≤xs.length∧F 33=.int .i64 j∧Kp WT SI g2 o' g∧X4 o' g wb Z6 Xq (SE (vm.take j)))
  (fun F _=>xs.length-(vi (F 33)).toNat) rfl ⟨f2,rfl,rfl,rfl,0,o3,Znr,oH,Nat.zero_le _,rfl,K3,A3⟩ ?_
 clear f0 f2 f17 f18 f19 K3 A3
 rintro F4 g4 ⟨f2,f7,f31,f32,j,o4,Zns,bm,hj,f33,K4,A4⟩
 by_cases ZC:j<xs.length
 ·have ZL:(j:Int)<xs.length:=by omega
  obtain⟨bb,oo,rfl,UP,PV⟩:=YO (by intro e;rw[e]at ZC;simp at ZC)
  obtain⟨x,TJ⟩:=ZA (xs[j])
  have oK:x∈xs:=by rw[TJ];exact List.getElem_mem ZC
  have xx:x.1.err=0:=Y3 x.1 (by unfold YM;exact List.mem_map_of_mem oK)
  obtain⟨q1,q2,q3,q4,q5⟩:=AA xx
  have Kh4:Kp WT SI h o4 g4:=kh2.trans K4
  have iv:=(hx x oK).Zd Kh4
  obtain⟨pd,cd,Ob⟩:=iv.1.isSlice
  have r1:rd g4 ⟨bb,oo+j*5,none⟩ 5=some (X6 x):=by rw[JI (T4 Kh4) UP,TJ];exact PV j ZC
  unfold X6 WU at r1
  rw[Ob]at r1 iv
  obtain⟨g5,mZ⟩:=ZA (g4.push (.cells (WU x.1.k x.1.n x.1.a x.1.b (.slice pd x.1.data.length cd)).toArray 36):Hp)
  have e5:=mZ.symm
  have k5:Kp Qh o4 g4 o4 g5:=by rw[mZ];exact ZY K4.ZX _
  have y5:g5[g4.size]? = some (.cells (WU x.1.k x.1.n x.1.a x.1.b (.slice pd x.1.data.length cd)).toArray 36):=by rw[mZ];exact Zb
  have r5:rd g5 ⟨g4.size,0,none⟩ 5=some (WU x.1.k x.1.n x.1.a x.1.b (.slice pd x.1.data.length cd)):=Zq y5 rfl
  unfold WU at e5 r5
  have en:((x.1.n.toNat:Nat):Int)=x.1.n:=by omega
  have ea:((x.1.a.toNat:Nat):Int)=x.1.a:=by omega
  have cd2:=zr T g5 o4 wb Zns bm (SE (vm.take j)) x.1.ac (.slice pd x.1.data.length cd) k5.ZX (A4.still k5) (inv j hj) q1 (by unfold Raw.ac;simp only;omega) (iv.Zd k5) (by unfold Raw.ac;simp only;omega) ((tb.Zd Kh4).Zd k5)
  unfold Zp WU Raw.ac at cd2
  simp only at cd2
  rw[en,ea]at cd2
  have YH:SE (vm.take (j+1))=act (SE (vm.take j)) ⟨x.1.k,x.1.n.toNat,x.1.a.toNat,x.1.b,x.1.data⟩:=by
   rw[Yd _ j (by rw[ZeC];exact ZC)]
   unfold SE
   rw[List.foldl_append]
   have:vm[j]'(by rw[ZeC];exact ZC)=⟨x.1.k,x.1.n.toNat,x.1.a.toNat,x.1.b,x.1.data⟩:=by
    simp only[tF,List.getElem_map,GM j ZC,←TJ];rfl
   rw[this];rfl
  simp -implicitDefEqProofs only[go_sem,↓reduceIte,f2,f7,f31,f32,f33,ZL,r1,e5,r5]
  refine cd2.use ?_
  rintro v' g6 ⟨o6,WA6,Znu,k6,A6⟩
  simp -implicitDefEqProofs only[go_sem,↓reduceIte,f33]
  unfold Y9
  refine⟨⟨f2,f7,f31,f32,j+1,o6,Znu,WA6,ZC,rfl,(K4.trans (Yc k5)).trans k6,by rw[YH];exact A6⟩,?_⟩
  simp only[vi,Zl,↓reduceIte,f33];omega
 have YF:¬(j:Int)<xs.length:=by omega
 obtain rfl:j=xs.length:=by omega
 rw[List.take_of_length_le (by omega)]at A4
 have okW:=inv xs.length (Nat.le_refl _)
 rw[List.take_of_length_le (by omega)]at okW
 obtain⟨w,hw⟩:=ZA (SE vm)
 rw[←hw]at A4 okW
 have U4:=YS A4.wd.ZE.2
 have U4o:=U4.out
 have Znv:=Za A4.wd.ZE.2
 obtain⟨pf,cf,hpf,_⟩:=Vw A4.wd.Zn
 obtain⟨pt,ct,ib,_⟩:=A4.wd.told.isSlice
 obtain⟨tv,htv⟩:=ZA (bm.told)
 rw[ib]at U4o htv
 obtain⟨kb,nR⟩:=ZA (g4.size)
 obtain⟨g5,mZ⟩:=ZA (g4.push (.cells [.int .i64 0,.bool false,.bool false,.bool false,.bool false,.bool false,.slice none 0 0,.int .i64 (w.bad 0),.int .i64 (w.bad 1),.int .i64 (w.bad 2),.int .i64 (w.bad 3),.int .i64 (w.bad 4),.slice pt w.told.length ct].toArray 33):Hp)
 have e5:=mZ.symm
 have y5:g5[kb]? = some (.cells [.int .i64 0,.bool false,.bool false,.bool false,.bool false,.bool false,.slice none 0 0,.int .i64 (w.bad 0),.int .i64 (w.bad 1),.int .i64 (w.bad 2),.int .i64 (w.bad 3),.int .i64 (w.bad 4),.slice pt w.told.length ct].toArray 33):=by rw[mZ,nR];exact Zb
 have k5:Kp Qh o4 g4 o4 g5:=by rw[mZ];exact ZY K4.ZX _
 obtain⟨g6,SG⟩:=ZA (g5.setIfInBounds kb (.cells (Dv w 0 (.slice none 0 0) (.slice pt w.told.length ct)).toArray 33):Hp)
 have w6:Jh g5 ⟨kb,0,none⟩ (.int .i64 w.Zn.length)=some g6:=by rw[Yr y5 0 _,SG];rfl
 have l5:=Za y5
 obtain⟨o6,ho6⟩:=ZA (Jj o4 kb (.log 101))
 have k6:Kp AB o4 g4 o6 g6:=by rw[ho6,SG];exact ((ZF k5).Ty (by omega) l5 (.inr rfl)).CS (by omega) _
 have B6:QA o6 (.log 101) g6 kb (.cells (Dv w 0 (.slice none 0 0) (.slice pt w.told.length ct)).toArray 33):=⟨by rw[ho6];exact YT,by rw[SG];exact Zv y5⟩
 have A5:=A4.still k5
 have U5:=YS A5.wd.ZE.2
 have U5f:=U5.Zn
 rw[hpf]at U5f
 have Ap:=Za A5.wd.ZE.2
 have nof:∀t,AB t→t.of≠none:=by rintro t (rfl|rfl) e<;>cases e
 have non:∀t (i:Nat),i<5→AB t→t.of≠some i:=by
  rintro t i hi (rfl|rfl) e
  ·have:=Option.some.inj e;omega
  ·have:=Option.some.inj e;omega
 have W6:=A4.wd.Zd k6 nof
 obtain⟨bn,Znx,cn,hn,jy,xX,zF⟩:=UZ W6
 have U6n:=(YS W6.ZE.2).nodes
 rw[hn]at U6n
 have ZeD:=Za W6.ZE.2
 simp -implicitDefEqProofs only[go_sem,↓reduceIte,f32,f33,YF,f2,f7,U4o,Znv,e5]
 rw[←nR]
 simp -implicitDefEqProofs only[go_sem,↓reduceIte,f7,U5f,Ap,w6,l5,U6n,ZeD]
 refine VS.ZW (fun F g=>F 2=.pointer (some ⟨h.size,0,none⟩)∧F 10=.pointer (some ⟨kb,0,none⟩)∧F 54=.slice (some ⟨bn,Znx,none⟩) 5 cn∧F 55=.int .i64 5∧∃(j:Nat) (o':Ow) (lv:Value) (vs:List Value),j≤5∧F 56=.int .i64 j∧Kp AB o4 g4 o' g∧QA o' (.log 101) g kb (.cells (Dv w j lv (.slice pt w.told.length ct)).toArray 33) ∧
   Yt o' (.log 100) 37 1 g lv j vs∧FJ (fun v l=>Im o' 5 g v l.length (Zz Qd.C l)∧∀b,ZN v=some b→g4.size≤b) vs (ON w j))
  (fun F _=>5-(vi (F 56)).toNat) rfl ⟨f2,rfl,rfl,rfl,0,o6,.slice none 0 0,[],by omega,rfl,k6,B6,Yt.nil _ _ _ _ _,.nil⟩ ?_
 clear f2 f7 f31 f32 f33 B6 k6 w6 l5 U6n ZeD W6 zF xX ho6 SG y5 e5
 rintro F7 g7 ⟨f2,f10,f54,f55,j,o7,lv,vs,hj,f56,K7,B7,O7,L7⟩
 have W7:=A4.wd.Zd K7 nof
 by_cases ZC:j<5
 ·have ZL:(j:Int)<5:=by omega
  obtain⟨na,N4j⟩:=A4.nd j ZC
  have N7:=N4j.Zd K7 (fun t q=>non t j ZC q)
  obtain⟨bn',ZsD,cn',SO,Zzc,xX,zF⟩:=UZ W7
  rw[hn]at SO
  simp only[Value.slice.injEq,Option.some.injEq,Addr.mk.injEq,true_and,and_true]at SO
  obtain⟨⟨rfl,rfl⟩,rfl⟩:=SO
  have ri:=zF j ZC
  unfold Zp at ri
  have P7:=Zy N7.ZE.2 N7.pt.store.len
  have P7u:=P7.up
  have za:=Za N7.ZE.2
  have l7:=Za B7.2
  obtain⟨g8,Ib⟩:=ZA (g7.setIfInBounds kb (.cells (Dv w (j+1) lv (.slice pt w.told.length ct)).toArray 33):Hp)
  have w8:Jh g7 ⟨kb,1+j,none⟩ (.bool (w.nodes j).up)=some g8:=by
   rw[Yr B7.2,if_pos ⟨by rw[bE];omega,rfl⟩,zD w j lv _ ZC,Ib]
  have k8:Kp AB o7 g7 o7 g8:=by rw[Ib];exact (Kp.refl K7.ZX AB).set B7.1 (.inr rfl) _
  have k8':Kp (fun t=>t=.log 101) o7 g7 o7 g8:=by rw[Ib];exact (Kp.refl K7.ZX (fun t=>t=.log 101)).set B7.1 rfl _
  have B8:QA o7 (.log 101) g8 kb (.cells (Dv w (j+1) lv (.slice pt w.told.length ct)).toArray 33):=⟨B7.1,by rw[Ib];exact Zv B7.2⟩
  have O8:=O7.Zd k8' (by intro e;cases e)
  have L8:=PZ L7 (R':=fun v l=>Im o7 5 g8 v l.length (Zz Qd.C l)∧∀b,ZN v=some b→g4.size≤b) (fun v l q=>⟨q.1.Zd k8,q.2⟩)
  have K8:=K7.trans k8
  have N8:=N7.Zd k8 (fun t q=>non t j ZC q)
  have P8l:=(Zy N8.ZE.2 N8.pt.store.len).log
  obtain⟨pl,cl,ML,_⟩:=Yt.isSlice N8.pt.log
  have ML:na.log=.slice pl (w.nodes j).log.length cl:=ML
  rw[ML]at P8l
  have Tl:=N8.pt.log.ts
  rw[ML]at Tl
  have sJ:=Za N8.ZE.2
  have l8:=Za B8.2
  obtain⟨plv,clv,rfl,_⟩:=O8.isSlice
  have r8:hc g8 ⟨kb,6,none⟩=some (.slice plv j clv):=Zh B8.2
  have cc:=Az T g8 (.slice pl (w.nodes j).log.length cl) (w.nodes j).log Tl (by have:=okW.log j ZC;omega)
  simp -implicitDefEqProofs only[go_sem,↓reduceIte,f2,f10,f54,f55,f56,ZL,ri,P7u,za,w8,l7,xX]
  refine VS.z (g8.size) [8,10] (.p 0 (.q 1 (.p 2 (.p 3 (.p 4 (.q 5 (.s 6 (.s 7 (.w 8 (.p 9 (.w 10 .nil))))))))))) mixed (by kernel_rfl) ?_
  simp -implicitDefEqProofs only[go_sem,↓reduceIte,f2,f10,r8,P8l,sJ,l8]
  refine cc.use ?_
  rintro v9 g9 ⟨o9,b9⟩
  have k9:Kp Qh o7 g8 o7 g9:=ZD K8.ZX b9
  have im9:Im o7 5 g9 v9 (w.nodes j).log.length (Zz Qd.C (w.nodes j).log):=Im.QJ o9.own (fun b hb=>K8.ZX b hb)
  have lo9:∀b,ZN v9=some b→g4.size≤b:=fun b hb=>Nat.le_trans K8.size (o9.own.ZE b hb)
  obtain⟨p9,c9,rfl⟩:=im9.isSlice
  obtain⟨yP,tH⟩:=ZA (g9.push (.cells [.slice p9 (w.nodes j).log.length c9].toArray 37):Hp)
  have e10:=tH.symm
  have fw:Kp Qh o7 g9 o7 yP:=by rw[tH];exact ZY k9.ZX _
  have K10:Kp AB o4 g4 o7 yP:=(K8.trans (ZF k9)).trans (ZF fw)
  have B10:=(B8.Zd k9 (fun q=>q)).Zd fw (fun q=>q)
  have O10:=(O8.Zd k9 (fun q=>q)).Zd fw (fun q=>q)
  have Znz:=im9.Zd fw
  have x10:yP[g9.size]? = some (.cells [.slice p9 (w.nodes j).log.length c9].toArray 37):=by rw[tH];exact Zb
  have src:Sl 1 yP (.slice (some ⟨g9.size,0,none⟩) 1 1) 1 [.slice p9 (w.nodes j).log.length c9]:=⟨_,1,rfl,rfl,fun _=>⟨g9.size,0,rfl,fun i hi=>by
   rw[Zh x10,Yk,Nat.zero_add];exact List.getElem?_eq_getElem hi⟩⟩
  simp -implicitDefEqProofs only[go_sem,↓reduceIte,b9,e10]
  refine⟨by rw[tH];exact b9.Yh b9.size _,?_⟩
  refine XQ (E:=37) (n:=1) (bytes:=24) (k:=1) Zb7 Tryz.underlying29 ZiZ Zi1 rfl Zi0 O10 K10.ZX src rfl (by omega) (by omega) ?_
  intro v11 o11 oE O11 gX _
  have gX:Kp (fun u=>u=.log 100) o7 yP o11 oE:=gX
  obtain⟨p11,c11,rfl,_⟩:=O11.isSlice
  have B11:=B10.Zd gX (by intro e;cases e)
  have l11:=Za B11.2
  obtain⟨g12,Eb⟩:=ZA (oE.setIfInBounds kb (.cells (Dv w (j+1) (.slice p11 (j+1) c11) (.slice pt w.told.length ct)).toArray 33):Hp)
  have w12:Jh oE ⟨kb,6,none⟩ (.slice p11 (j+1) c11)=some g12:=by
   rw[Yr B11.2,if_pos ⟨by rw[bE];omega,rfl⟩,tD,Eb]
  have rR:Kp (fun t=>t=.log 101) o11 oE o11 g12:=by rw[Eb];exact (Kp.refl gX.ZX (fun t=>t=.log 101)).set B11.1 rfl _
  have B12:QA o11 (.log 101) g12 kb (.cells (Dv w (j+1) (.slice p11 (j+1) c11) (.slice pt w.told.length ct)).toArray 33):=⟨B11.1,by rw[Eb];exact Zv B11.2⟩
  simp -implicitDefEqProofs only[go_sem,↓reduceIte,f10,w12,l11,f56]
  unfold Y9
  refine⟨⟨f2,f10,f54,f55,j+1,o11,.slice p11 (j+1) c11,vs++[.slice p9 (w.nodes j).log.length c9],ZC,rfl,(K10.trans (gX.mono fun t q=>.inl q)).trans (rR.mono fun t q=>.inr q),B12,O11.Zd rR (by intro e;cases e),?_⟩,?_⟩
  ·rw[Dw]
   refine Df (PZ L8 fun v l q=>⟨((((q.1.Zd k9).Zd fw).Zd gX).Zd rR),q.2⟩) ⟨(Znz.Zd gX).Zd rR,lo9⟩
  ·simp only[vi,Zl,↓reduceIte,f56];omega
 have YF:¬(j:Int)<5:=by omega
 obtain rfl:j=5:=by omega
 have bx7:ZM o7 g7 h.size (.cells ie.toArray 33):=ZM.Zd (ZM.Zd (o:=SI) ⟨rfl,rz g2 b2⟩ K4) K7
 have rk:rd g7 ⟨kb,0,none⟩ 13=some (Dv w 5 lv (.slice pt w.told.length ct)):=Zq B7.2 rfl
 obtain⟨g8,Ib⟩:=ZA (g7.setIfInBounds h.size (.cells (Dv w 5 lv (.slice pt w.told.length ct)).toArray 33):Hp)
 have w8:wr g7 ⟨h.size,0,none⟩ (Dv w 5 lv (.slice pt w.told.length ct))=some g8:=by
  obtain⟨plv,clv,rfl,_⟩:=O7.isSlice
  rw[ZR bx7.2 0 _,Ib];rfl
 have l7:=Za bx7.2
 have r8:rd g8 ⟨h.size,0,none⟩ 13=some (Dv w 5 lv (.slice pt w.told.length ct)):=Zq (by rw[Ib];exact Zv bx7.2) rfl
 have K7a:Kp WT SI h o7 g7:=(kh2.trans K4).trans (Yc K7)
 have vl:vs.length=5:=by have:=O7.length;omega
 have bound:h.size<g4.size:=Nat.lt_of_lt_of_le (Za (rz g2 b2)) K4.size
 rw[show Dv w 5 lv (.slice pt w.told.length ct)=gd w lv (.slice pt w.told.length ct) from rfl]at rk w8 r8
 unfold gd at rk w8 r8
 simp -implicitDefEqProofs only[go_sem,↓reduceIte,f55,f56,YF,f2,f10,rk,w8,l7,r8]
 refine⟨by rw[Ib];exact (T4 K7a).Zm (Nat.le_refl _) _,?_⟩
 unfold Hf
 rw[hzero,if_pos rfl,←tF,←hw]
 refine⟨_,lv,.slice pt w.told.length ct,vs,rfl,fun G hG=>?_⟩
 have wt:=W7.told
 rw[ib]at wt
 have Ys:∀b,b<g7.size→b≠h.size→G[b]? = g8[b]? → G[b]? = g7[b]?:=fun b _ h2 e=>by rw[e,Ib,Array.getElem?_setIfInBounds,if_neg (fun e=>h2 e.symm)]
 have hs8:g8.size=g7.size:=by rw[Ib];simp
 have own:∀t,∀b,o7 b=some t→b<g7.size→G[b]? = g7[b]?:=fun t b q1 q2=>Ys b q2 (fun e=>by rw[e,bx7.1]at q1;cases q1) (hG b (Dx K7a q1) (by omega))
 refine⟨rfl,⟨by rw[gf,vl];exact (bF O7 (own _)).sl⟩,?_,⟨(bF wt (own _)).sl⟩,PZ (k:=ON w 5) L7 fun v l q=>q.1.fits⟩
 refine PZ (k:=ON w 5) L7 fun v l q=>⟨ZeB q.1 fun b hb ZC=>?_⟩
 have:=q.2 b hb
 exact Ys b ZC (by omega) (hG b (by omega) (by omega))
structure CmI (C:List Cm) (w v:Wd) (m:Nat):Prop where
 nd:∀i,i<5→Qi C i (v.nodes i)
 Mc:∀i,i<5→∀l∈(v.nodes i).inbox,Qe C l
 He:v.Zn=w.Zn
 sum:Rw (fun i=>(v.nodes i).inbox.length)≤Rw (fun i=>(w.nodes i).inbox.length)+m
 wait:Rw (fun i=>(v.nodes i).waiting.length)=Rw (fun i=>(w.nodes i).waiting.length)
 told:v.told=w.told
 bad:v.bad=w.bad
theorem AD {C:List Cm} {w:Wd} {l:Y2} (h1:∀i,i<5→Qi C i (w.nodes i)) (h2:∀i,i<5→∀l∈(w.nodes i).inbox,Qe C l) (hl:Qe C l):CmI C w (QX w l) 1:=by
 have vg:l.to.toNat<5:=by have:=hl.to;omega
 unfold QX
 split
 ·refine⟨fun i hi=>?_,fun i hi x hx=>?_,rfl,?_,?_,rfl,rfl⟩
  ·unfold Wd.set
   by_cases e:i=l.to.toNat
   ·simp only[if_pos e]
    rw[e]
    exact { h1 _ vg with }
   ·simp only[if_neg e];exact h1 i hi
  ·unfold Wd.set at hx
   by_cases e:i=l.to.toNat
   ·simp only[if_pos e]at hx
    rcases List.mem_append.1 hx with hx|hx
    ·exact h2 _ vg x hx
    ·have:x=l:=by simpa using hx
     rw[this];exact hl
   ·simp only[if_neg e]at hx;exact h2 i hi x hx
  ·have:=PY w l.to.toNat { w.nodes l.to.toNat with inbox:=(w.nodes l.to.toNat).inbox++[l] } (fun n=>n.inbox.length) vg
   unfold Wd.set
   simp only[List.length_append,List.length_singleton]at this ⊢
   omega
  ·have:=PY w l.to.toNat { w.nodes l.to.toNat with inbox:=(w.nodes l.to.toNat).inbox++[l] } (fun n=>n.waiting.length) vg
   unfold Wd.set
   simp only at this ⊢
   omega
 ·exact⟨h1,h2,rfl,by omega,rfl,rfl,rfl⟩
theorem tI {C:List Cm}:∀(ls:List Y2) (w:Wd),(∀i,i<5→Qi C i (w.nodes i))→(∀i,i<5→∀l∈(w.nodes i).inbox,Qe C l)→(∀l∈ls,Qe C l)→CmI C w (ls.foldl QX w) ls.length:=by
 intro ls
 induction ls with
 | nil=>intro w h1 h2 _;exact⟨h1,h2,rfl,by simp,rfl,rfl,rfl⟩
 | cons l ls ih=>
  intro w h1 h2 h3
  have a:=AD h1 h2 (h3 l (by simp))
  have b:=ih (QX w l) a.nd a.Mc (fun x hx=>h3 x (by simp[hx]))
  refine⟨b.nd,b.Mc,by rw[List.foldl_cons,b.He,a.He],?_,by rw[List.foldl_cons,b.wait,a.wait],by rw[List.foldl_cons,b.told,a.told],by rw[List.foldl_cons,b.bad,a.bad]⟩
  have h4:=b.sum
  have h5:=a.sum
  simp only[List.foldl_cons,List.length_cons]
  omega
theorem WI.tJ {C:List Cm} {k:Nat} {w u v:Wd} {m:Nat} (h:WI C k w) (c:CmI C u v m) (hu1:u.nodes=w.nodes) (hu2:∀l∈u.Zn,l∈w.Zn) (hu3:u.told=w.told) (hu4:u.bad=w.bad) (hm:u.Zn.length+m≤w.Zn.length+1):WI C (k+1) v:=by
 have hs:=c.sum
 have hw:=c.wait
 rw[hu1]at hs hw
 have h1:=h.room
 have h2:=h.wait
 refine⟨c.nd,c.Mc,fun l hl=>h.He l (hu2 l (by rw[←c.He];exact hl)),?_,?_,fun i=>by rw[c.bad,hu4];have:=h.bad i;omega⟩
 ·rw[c.He];omega
 ·rw[c.told,hu3,hw];omega
theorem zH {C:List Cm} {k:Nat} {w:Wd} (h:WI C k w) (at':Nat) (comes stays:Bool):WI C (k+1) (pick w at' comes stays):=by
 unfold pick
 split
 ·exact h.more
 ·rename_i l hl
  have hU:l∈w.Zn:=List.mem_of_getElem? hl
  have hll:=h.He l hU
  have el:(w.Zn.eraseIdx (at'%w.Zn.length)).length+1≤w.Zn.length+1:=by
   have:=List.length_eraseIdx_le w.Zn (at'%w.Zn.length);omega
  have el2:(w.Zn.eraseIdx (at'%w.Zn.length)).length≤w.Zn.length:=by omega
  cases comes with
  | true=>
   cases stays with
   | true=>exact h.tJ (u:=w) (AD h.nd h.Mc hll) rfl (fun l q=>q) rfl rfl (by omega)
   | false=>exact h.tJ (u:={ w with Zn:=w.Zn.eraseIdx (at'%w.Zn.length) }) (AD h.nd h.Mc hll) rfl (fun l q=>List.mem_of_mem_eraseIdx q) rfl rfl el
  | false=>
   cases stays with
   | true=>exact h.more
   | false=>exact h.tJ (u:={ w with Zn:=w.Zn.eraseIdx (at'%w.Zn.length) }) (m:=0) ⟨h.nd,h.Mc,rfl,by simp,rfl,rfl,rfl⟩ rfl (fun l q=>List.mem_of_mem_eraseIdx q) rfl rfl (by simp only;omega)
def Md (rc:List Nat):Cm:=⟨Xo ((JH rc).drop 22) 0,Xo ((JH rc).drop 22) 1,Xo ((JH rc).drop 22) 2,Xo ((JH rc).drop 22) 3,Xo ((JH rc).drop 22) 4⟩
theorem nE (n:Nd) (x:Cm):(OF n x).waiting.length≤n.waiting.length+1:=by
 unfold OF;split
 ·omega
 ·simp
theorem nF {C:List Cm} {k:Nat} {w:Wd} (h:WI C k w) {i:Nat} (hi:i<5) {rc:List Nat} (hc:Md rc∈C):WI C (k+1) (VU w i rc):=by
 unfold VU
 split
 ·split
  ·refine⟨h.nd,h.Mc,h.He,Nat.le_trans h.room (Nat.mul_le_mul_right _ (Nat.le_succ k)),Nat.le_trans h.wait (Nat.le_succ k),fun j=>?_⟩
   have h1:=h.bad j
   have h2:=h.bad i
   simp only
   split<;>omega
  ·rename_i q
   have e:Te rc (w.nodes i).log.length=Md rc:=by
    unfold Te Md
    rw[if_pos (by simpa using q)]
   rw[e]
   split
   ·have hw:=h.wait
    refine⟨h.nd,h.Mc,h.He,Nat.le_trans h.room (Nat.mul_le_mul_right _ (Nat.le_succ k)),by simp only[List.length_append,List.length_singleton];omega,fun j=>by have:=h.bad j;simp only;omega⟩
   ·rw[VZ]
    have ha:=vj (h.nd i hi) hc
    have s1:(add (w.nodes i) (Md rc)).inbox=(w.nodes i).inbox:=by unfold add;split<;>rfl
    have s2:(OF (add (w.nodes i) (Md rc)) (Md rc)).inbox=(w.nodes i).inbox:=by unfold OF;split<;>exact s1
    have s3:=nE (add (w.nodes i) (Md rc)) (Md rc)
    have s4:=(add_same (w.nodes i) (Md rc)).1
    refine h.out hi ?_ (fun l hl=>by cases hl) (by simp only[s2];exact h.Mc i hi) (by simp only[s2];simp) (by simp only[List.length_nil];rw[s4]at s3;omega)
    unfold OF
    simp only
    split
    ·exact ha
    ·exact { ha with }
 ·exact h.more
theorem ZeG {C:List Cm} (hC:C.length≤100000) {k:Nat} {w:Wd} (h:WI C k w) (a:Ac) (hi:a.node<5) (hc:Md a.data∈C):WI C (k+1) (act w a):=by
 have hn:=h.nd a.node hi
 have hb:=h.Mc a.node hi
 unfold act
 split
 ·exact nF h hi hc
 split
 ·obtain⟨l1,l2,l3⟩:=zq hn
  rw[VZ]
  exact h.out hi l1 (fun l hl=>by cases hl) (by simp only[l2];exact hb) (by simp only[l2];simp) (by simp only[l3];simp)
 split
 ·obtain⟨s1,s2,s3,s4,s5⟩:=zo hi hC hn hb
  exact h.out hi s1 s2 s3 (by omega) (by omega)
 split
 ·exact zH h _ _ _
 split
 ·have c:=tI w.Zn { w with Zn:=[] } h.nd h.Mc h.He
  exact h.tJ c rfl (fun l hl=>by cases hl) rfl rfl (by simp)
 split
 ·obtain⟨c1,c2⟩:=fZ hn a.Zd
  rw[VZ]
  rcases c2 with⟨c2,c3⟩|c2
  ·exact h.out hi c1 (fun l hl=>by cases hl) (by simp only[c2];intro l hl;cases hl) (by simp only[c2];simp) (by simp only[c3];simp)
  ·exact h.out hi c1 (fun l hl=>by cases hl) (by simp only[c2];exact hb) (by simp only[c2];simp) (by simp only[c2];simp)
 ·obtain⟨c1,c2⟩:=ga hn
  rw[VZ]
  rcases c2 with⟨c2,c3⟩|c2
  ·exact h.out hi c1 (fun l hl=>by cases hl) (by simp only[c2];intro l hl;cases hl) (by simp only[c2];simp) (by simp only[c3];simp)
  ·exact h.out hi c1 (fun l hl=>by cases hl) (by simp only[c2];exact hb) (by simp only[c2];simp) (by simp only[c2];simp)
theorem nG (C:List Cm):WI C 0 TY:=by
 refine⟨fun i hi=>MA (by simp) Hc.zero,(fun i hi l hl=>by cases hl),(fun l hl=>by cases hl),by simp[TY,Rw,blank],by simp[TY,Rw,blank],fun i=>by simp[TY]⟩
theorem zI {C:List Cm} (hC:C.length≤100000):∀(l:List Ac) (k:Nat) (w:Wd),WI C k w→(∀a∈l,a.node<5∧Md a.data∈C)→WI C (k+l.length) (l.foldl act w):=by
 intro l
 induction l with
 | nil=>intro k w h _;exact h
 | cons a l ih=>
  intro k w h hl
  have:=ih (k+1) (act w a) (ZeG hC h a (hl a (by simp)).1 (hl a (by simp)).2) (fun x hx=>hl x (by simp[hx]))
  rw[List.length_cons,show k+(l.length+1)=k+1+l.length by omega]
  exact this
theorem tK (xs:List (Raw × Value)) (hz:∀x∈YM xs,x.err=0) (hl:xs.length≤100000) (j:Nat) (hj:j≤xs.length):WOk (SE (((YM xs).take j).map Raw.ac)):=by
 obtain⟨C,hC⟩:∃C,C=(YM xs).map fun x=>Md x.data:=⟨_,rfl⟩
 have rl:(YM xs).length=xs.length:=by unfold YM;simp
 have yF:C.length≤100000:=by rw[hC,List.length_map,rl];exact hl
 have:=zI yF (((YM xs).take j).map Raw.ac) 0 TY (nG C) (fun a ha=>by
  obtain⟨x,hx,rfl⟩:=List.mem_map.1 ha
  have hx:=List.mem_of_mem_take hx
  obtain⟨_,h2,_,_,_⟩:=AA (hz x hx)
  refine⟨by unfold Raw.ac;simp only;omega,?_⟩
  rw[hC]
  exact List.mem_map.2 ⟨x,hx,rfl⟩)
 refine this.ok yF ?_
 rw[List.length_map,List.length_take]
 omega
theorem tL (T:World) (h:Hp) (v:Value) (xs:List (Raw × Value)) (hv:Ts X6 5 h v xs) (hx:∀x∈xs,Vz SI h x.2 x.1.data) (tb:DO SI h) (GV:xs.length≤4611686018427387904) :
  Zc Tryz.prog T 37 #[v] h fun v' h'=>Zg h.size h h'∧Hf h.size h' v' (YM xs):=
 tE T h v xs hv hx tb GV fun h1 h2 j hj=>tK xs h1 h2 j hj
def JT (n m:Int):Int:=(if n<0 then 0-(n+1) else n)%m
theorem UD (n:Int) {m:Int} (h:0<m):0≤JT n m∧JT n m<m:=⟨Int.emod_nonneg _ (by omega),Int.emod_lt_of_pos _ h⟩
def i64 (n:Int):Prop:=-9223372036854775808≤n∧n<9223372036854775808
theorem UE (T:World) (h:Hp) (n m:Int) (hn:i64 n) (hm:1≤m) (qP:m≤1000000) :
  Zc Tryz.prog T 30 #[.int .i64 n,.int .i64 m] h fun v' h'=>v'=.int .i64 (JT n m)∧h'=h:=by
 unfold i64 at hn
 refine Zc.Zi (args:=[_,_]) Tryz.func30 rfl rfl rfl rfl ?_
 have hm0:¬m=0:=by omega
 by_cases q:n<0
 ·have e:JT n m=(0-(n+1)).tmod m:=by unfold JT;rw[if_pos q,Int.tmod_eq_emod_of_nonneg (by omega)]
  rw[e]
  simp -implicitDefEqProofs only[go_sem,↓reduceIte,q,hm0]
 ·have e:JT n m=n.tmod m:=by unfold JT;rw[if_neg q,Int.tmod_eq_emod_of_nonneg (by omega)]
  rw[e]
  simp -implicitDefEqProofs only[go_sem,↓reduceIte,q,hm0]
theorem XX (T:World) (h:Hp) (n m:Int) (hn:i64 n) (hm:1≤m) (qP:m≤1000000) :
  Zc Tryz.prog T 18 #[.int .i64 n,.int .i64 m] h fun v' h'=>v'=.int .i64 (JT n m)∧h'=h:=by
 refine Zc.Zi (args:=[_,_]) Tryz.func18 rfl rfl rfl rfl ?_
 simp -implicitDefEqProofs only[go_sem,↓reduceIte]
 refine (UE T h n m hn hm qP).pure ?_
 simp -implicitDefEqProofs only[go_sem,↓reduceIte]
def ZeH (k c s n v:Int):List Value:=[.int .i64 k,.int .i64 c,.int .i64 s,.int .i64 n,.int .i64 v]
def cmW (k c s n v:Int):Cm:=⟨1+(JT k 5).tdiv 2,JT c 4,JT s 6,JT n 4,if 1+(JT k 5).tdiv 2=1 then JT v 1000 else 0⟩
theorem Dy (T:World) (h:Hp) (k c s n v:Int) (hk:i64 k) (hc:i64 c) (hs:i64 s) (hn:i64 n) (hv:i64 v) :
  Zc Tryz.prog T 27 #[.agg (ZeH k c s n v).toArray] h fun v' h'=>v'=.agg (cmW k c s n v).C.toArray∧Zg h.size h h':=by
 refine Zc.Zi (args:=[_]) Tryz.func27 rfl rfl rfl rfl ?_
 unfold ZeH
 simp -implicitDefEqProofs only[go_sem,↓reduceIte]
 refine VS.w (h.size+2) [16] (.q 0 (.q 1 (.q 2 (.q 3 (.q 4 (.q 5 (.q 6 (.q 7 (.q 8 (.q 9 (.q 10 (.q 11 (.q 12 (.q 13 (.q 14 (.s 15 (.w 16 .nil))))))))))))))))) mixed (by kernel_rfl) ?_
 simp -implicitDefEqProofs only[go_sem,↓reduceIte]
 refine Jz (fun h=>UE T h k 5 hk (by omega) (by omega)) ?_
 simp -implicitDefEqProofs only[go_sem,↓reduceIte]
 refine Jz (fun h=>UE T h c 4 hc (by omega) (by omega)) ?_
 simp -implicitDefEqProofs only[go_sem,↓reduceIte]
 refine Jz (fun h=>UE T h s 6 hs (by omega) (by omega)) ?_
 simp -implicitDefEqProofs only[go_sem,↓reduceIte]
 refine Jz (fun h=>UE T h n 4 hn (by omega) (by omega)) ?_
 have r1:=UD k (m:=5) (by omega)
 generalize OC:JT k 5=K at *
 have r2:0≤K.tdiv 2∧K.tdiv 2≤2:=by rw[Int.tdiv_eq_ediv_of_nonneg r1.1];omega
 unfold cmW
 rw[OC]
 generalize K.tdiv 2=J at *
 by_cases q:1+J=1
 ·simp -implicitDefEqProofs only[go_sem,↓reduceIte,q]
  refine⟨Zg.push (by simp) _,(UE T _ v 1000 hv (by omega) (by omega)).pure ?_⟩
  simp -implicitDefEqProofs only[go_sem,↓reduceIte,q]
  exact⟨rfl,(((Zg.refl _ _).add _).add _).add _⟩
 ·simp -implicitDefEqProofs only[go_sem,↓reduceIte,q]
  exact⟨Zg.push (by simp) _,rfl,(((Zg.refl _ _).add _).add _).add _⟩
structure Gr where
 k:Int
 a:Int
 b:Int
 c:Int
 d:Int
def Gr.C (g:Gr):List Value:=[.int .i64 g.k,.int .i64 g.a,.int .i64 g.b,.int .i64 g.c,.int .i64 g.d]
def Gr.ok (g:Gr):Prop:=(i64 g.k∧i64 g.a)∧i64 g.b∧i64 g.c∧i64 g.d
def DR (g:Gr):Cm:=cmW g.b g.c g.d g.a g.d
def gg (g:Gr):Int:=if JT g.d 17=16 then ((DR g).c+1).tmod 4 else (DR g).c
def gh (g:Gr):Int:=if JT g.d 17=15 then 0 else 7
def zK (n c r u:Int) (x:Cm):List Nat:=if WM n c r u x.k x.c x.s x.n x.v=0 then fa n c r u x.k x.c x.s x.n x.v else []
def Vx (g:Gr):List Nat:=zK (JT g.a 1000) (gg g) (gh g) 60 (DR g)
def T5 (g:Gr):List Nat:=if JT g.d 23=22∧30<(Vx g).length then (Vx g).take 30 else Vx g
theorem GN (T:World) (h:Hp) (g:Gr) (hg:g.ok) (tk:Tk h) :
  Zc Tryz.prog T 44 #[.agg g.C.toArray] h fun v' h'=>Z1 h.size 5 h' v' (T5 g)∧Zg h.size h h':=by
 obtain⟨⟨wk,wa⟩,wb,wc,wd⟩:=hg
 refine Zc.Zi (args:=[_]) Tryz.func44 rfl rfl rfl rfl ?_
 unfold Gr.C
 have c1:∀h:Hp,Zc Tryz.prog T 27 #[.agg #[.int .i64 g.b,.int .i64 g.c,.int .i64 g.d,.int .i64 g.a,.int .i64 g.d]] h fun v' h'=>v'=.agg (DR g).C.toArray∧Zg h.size h h':=fun h=>Dy T h g.b g.c g.d g.a g.d wb wc wd wa wd
 obtain⟨h0,XL⟩:=ZA (h.push (.cells g.C.toArray 81):Hp)
 have y0:h0[h.size]? = some (.cells g.C.toArray 81):=by rw[XL];exact Zb
 have b0:Zg h.size h h0:=by rw[XL];exact (Zg.refl _ _).add _
 have e0:=XL.symm
 unfold Gr.C at e0 y0
 have s0:h0.size=h.size+1:=by rw[XL];simp
 have l0:=Za y0
 have u1:hc h0 ⟨h.size,1,none⟩=some (.int .i64 g.a):=Zh y0
 have u2:hc h0 ⟨h.size,2,none⟩=some (.int .i64 g.b):=Zh y0
 have u3:hc h0 ⟨h.size,3,none⟩=some (.int .i64 g.c):=Zh y0
 have u4:hc h0 ⟨h.size,4,none⟩=some (.int .i64 g.d):=Zh y0
 simp -implicitDefEqProofs only[go_sem,↓reduceIte,e0,u1,u2,u3,u4,l0]
 refine (c1 h0).use ?_
 rintro _ h1 ⟨rfl,b1⟩
 have B1:Zg h.size h h1:=b0.trans (b1.mono b0.size)
 have s1:=b1.size
 have y1:=b1.get l0 y0
 obtain⟨X,hX⟩:=ZA (DR g)
 rw[←hX]
 have hXc:0≤X.c∧X.c<4:=by rw[hX];exact UD g.c (by omega)
 obtain⟨h2,U3⟩:=ZA ((h1.push (.cells X.C.toArray 47)).push (.cells [.int .i64 X.c,.int .i64 7,.int .i64 60].toArray 75):Hp)
 have e2:=U3.symm
 unfold Qd.C Qc at e2 ⊢
 have y4:hc h2 ⟨h.size,4,none⟩=some (.int .i64 g.d):=by
  have:h2[h.size]? = some (.cells [.int .i64 g.k,.int .i64 g.a,.int .i64 g.b,.int .i64 g.c,.int .i64 g.d].toArray 81):=by
   rw[U3,Zs (by simp;omega),Zs (by omega)];exact y1
  exact Zh this
 simp -implicitDefEqProofs only[go_sem,↓reduceIte,e2,y4]
 refine (XX T h2 g.d 17 wd (by omega) (by omega)).pure ?_
 have s2:h2.size=h1.size+2:=by rw[U3];simp
 have t2:h2[h1.size+1]? = some (.cells [.int .i64 X.c,.int .i64 7,.int .i64 60].toArray 75):=by rw[U3,Array.getElem?_push,if_pos (by simp)]
 have x2:h2[h1.size]? = some (.cells X.C.toArray 47):=by rw[U3,Zs (by simp),Zb]
 have b2:Zg h1.size h1 h2:=by rw[U3];exact ((Zg.refl _ _).add _).add _
 have yg2:=b2.get (Za y1) y1
 have B2:Zg h.size h h2:=B1.trans (b2.mono B1.size)
 have Ys:h1.size+1≠h.size:=by have:=B1.size;omega
 have EF:h1.size+1≠h1.size:=by omega
 clear e2 U3 e0 XL y4
 have three:∀tc tr:Int,tc=gg g→tr=gh g→∃g3:Hp,g3=h2.setIfInBounds (h1.size+1) (.cells [.int .i64 tc,.int .i64 tr,.int .i64 60].toArray 75)∧Zg h.size h g3∧g3.size=h2.size∧g3[h1.size+1]? = some (.cells [.int .i64 (gg g),.int .i64 (gh g),.int .i64 60].toArray 75)∧g3[h1.size]? = some (.cells X.C.toArray 47)∧g3[h.size]? = some (.cells [.int .i64 g.k,.int .i64 g.a,.int .i64 g.b,.int .i64 g.c,.int .i64 g.d].toArray 81):=fun tc tr e1 e2=>by
  refine⟨_,rfl,B2.Zm (by have:=B1.size;omega) _,by simp,?_,?_,?_⟩
  ·rw[←e1,←e2];exact Zv t2
  ·rw[Yi EF];exact x2
  ·rw[Yi Ys];exact yg2
 have rc2:hc h2 ⟨h1.size+1,0,none⟩=some (.int .i64 X.c):=Zh t2
 have l2:=Za t2
 have h3c:∃g3:Hp,((JT g.d 17=15∧Jh h2 ⟨h1.size+1,1,none⟩ (.int .i64 0)=some g3)∨(JT g.d 17=16∧Jh h2 ⟨h1.size+1,0,none⟩ (.int .i64 ((X.c+1).tmod 4))=some g3)∨((¬JT g.d 17=15∧¬JT g.d 17=16)∧g3=h2))∧Zg h.size h g3∧g3.size=h2.size∧g3[h1.size+1]? = some (.cells [.int .i64 (gg g),.int .i64 (gh g),.int .i64 60].toArray 75)∧g3[h1.size]? = some (.cells X.C.toArray 47)∧g3[h.size]? = some (.cells [.int .i64 g.k,.int .i64 g.a,.int .i64 g.b,.int .i64 g.c,.int .i64 g.d].toArray 81):=by
  by_cases ic:JT g.d 17=15
  ·obtain⟨g3,Ah,z⟩:=three X.c 0 (by unfold gg;rw[if_neg (by omega),hX]) (by unfold gh;rw[if_pos ic])
   exact⟨g3,.inl ⟨ic,by rw[Yr t2 1 _,Ah];rfl⟩,z⟩
  by_cases vo:JT g.d 17=16
  ·obtain⟨g3,Ah,z⟩:=three ((X.c+1).tmod 4) 7 (by unfold gg;rw[if_pos vo,hX]) (by unfold gh;rw[if_neg ic])
   exact⟨g3,.inr (.inl ⟨vo,by rw[Yr t2 0 _,Ah];rfl⟩),z⟩
  ·obtain⟨g3,Ah,z⟩:=three X.c 7 (by unfold gg;rw[if_neg vo,hX]) (by unfold gh;rw[if_neg ic])
   exact⟨g3,.inr (.inr ⟨⟨ic,vo⟩,by rw[Ah];exact Px t2⟩),z⟩
 obtain⟨g3,Kc,B3,s3,t3,x3,y3⟩:=h3c
 have ra:hc g3 ⟨h.size,1,none⟩=some (.int .i64 g.a):=Zh y3
 have rt:rd g3 ⟨h1.size+1,0,none⟩ 3=some [.int .i64 (gg g),.int .i64 (gh g),.int .i64 60]:=Zq t3 rfl
 have rx:rd g3 ⟨h1.size,0,none⟩ 5=some [.int .i64 X.k,.int .i64 X.c,.int .i64 X.s,.int .i64 X.n,.int .i64 X.v]:=Zq x3 rfl
 have ly:=Za y3
 have lt:=Za t3
 have lx:=Za x3
 have pk:=rF T g3 (JT g.a 1000) (gg g) (gh g) 60 X.k X.c X.s X.n X.v (tk.Ji B3)
 unfold VH Qc at pk
 clear three b2 t2 x2 yg2 b1 y1 b0 y0
 rcases Kc with⟨ic,w3⟩|⟨vo,w3⟩|⟨⟨ic,vo⟩,e23⟩
 case' inl=>simp -implicitDefEqProofs only[go_sem,↓reduceIte,ic,w3]
 case' inr.inl=>have ic:¬(16:Int)=15:=by decide
 case' inr.inl=>simp -implicitDefEqProofs only[go_sem,↓reduceIte,vo,rc2,w3]
 case' inr.inr=>subst e23
 case' inr.inr=>simp -implicitDefEqProofs only[go_sem,↓reduceIte,ic,vo]
 all_goals
  refine VS.w (g3.size) [] (.q 0 (.q 1 (.q 2 (.q 3 (.q 4 (.s 5 (.q 6 (.q 7 (.q 8 (.q 9 (.q 10 .nil))))))))))) mixed (by kernel_rfl) ?_
  simp -implicitDefEqProofs only[go_sem,↓reduceIte,ra,rt,rx,ly,lt,lx]
  refine Jz (fun h=>XX T h g.a 1000 wa (by omega) (by omega)) ?_
  simp -implicitDefEqProofs only[go_sem,↓reduceIte,rt,rx,lt,lx]
  refine pk.use ?_
  rintro _ h4 ⟨⟨w,rfl,o4⟩,b4⟩
  have B4:=B3.trans (b4.mono B3.size)
  have eF:(if WM (JT g.a 1000) (gg g) (gh g) 60 X.k X.c X.s X.n X.v=0 then fa (JT g.a 1000) (gg g) (gh g) 60 X.k X.c X.s X.n X.v else [])=Vx g:=by unfold Vx zK;rw[←hX]
  rw[eF]at o4
  have o4:=o4.mono B3.size
  obtain⟨p4,c4,rfl,_⟩:=o4.open
  have yd:hc h4 ⟨h.size,4,none⟩=some (.int .i64 g.d):=Zh (b4.get ly y3)
  simp -implicitDefEqProofs only[go_sem,↓reduceIte,yd,b4]
  refine (XX T h4 g.d 23 wd (by omega) (by omega)).pure ?_
  by_cases q22:JT g.d 23=22
  ·by_cases q30:30<(Vx g).length
   ·have zL:((Vx g).length:Int)>30:=by omega
    have eD:T5 g=(Vx g).take 30:=by unfold T5;rw[if_pos ⟨q22,q30⟩]
    simp -implicitDefEqProofs only[go_sem,↓reduceIte,q22,zL]
    have hf:=o4.own.Sx (m:=30) (by omega)
    rw[eD]
    refine⟨⟨?_,fun x hx=>o4.byte x (List.mem_of_mem_take hx)⟩,B4⟩
    rw[List.length_take,Nat.min_eq_left (by omega),List.map_take]
    exact hf
   ·have zL:¬((Vx g).length:Int)>30:=by omega
    have eD:T5 g=Vx g:=by unfold T5;rw[if_neg (fun h=>q30 h.2)]
    simp -implicitDefEqProofs only[go_sem,↓reduceIte,q22,zL]
    rw[eD]
    exact⟨o4,B4⟩
  ·have eD:T5 g=Vx g:=by unfold T5;rw[if_neg (fun h=>q22 h.1)]
   simp -implicitDefEqProofs only[go_sem,↓reduceIte,q22]
   rw[eD]
   exact⟨o4,B4⟩
def WW (g:Gr) (cr:Bool):Raw:=
 if JT g.k 24<3 then ⟨1,JT g.a 5,0,0,T5 g⟩ else if JT g.k 24<5 then ⟨2,JT g.a 5,0,0,[]⟩ else if JT g.k 24<14 then ⟨3,JT g.a 5,0,0,[]⟩
 else if JT g.k 24=14 then ⟨4,0,JT g.c 20,0,[]⟩ else if JT g.k 24=15 then ⟨5,0,JT g.c 20,0,[]⟩ else if JT g.k 24=16 then ⟨6,0,JT g.c 20,0,[]⟩
 else if JT g.k 24=17∧cr=true then ⟨8,JT g.a 5,0,JT g.c 90,[]⟩ else if JT g.k 24=18∧cr=true then ⟨9,JT g.a 5,0,0,[]⟩ else ⟨7,0,0,0,[]⟩
theorem gi (T:World) (h:Hp) (g:Gr) (cr:Bool) (hg:g.ok) (tk:Tk h) :
  Zc Tryz.prog T 29 #[.agg g.C.toArray,.bool cr] h fun v' h'=>(∃w,v'=.agg (X6 (WW g cr,w)).toArray∧Z1 h.size 5 h' w (WW g cr).data)∧Zg h.size h h':=by
 have pkc:=fun h tk=>GN T h g hg tk
 obtain⟨⟨wk,wa⟩,wb,wc,wd⟩:=hg
 refine Zc.Zi (args:=[_,_]) Tryz.func29 rfl rfl rfl rfl ?_
 unfold Gr.C at *
 obtain⟨h0,XL⟩:=ZA ((h.push (.cells [.int .i64 g.k,.int .i64 g.a,.int .i64 g.b,.int .i64 g.c,.int .i64 g.d].toArray 81)).push (.cells (WU 0 0 0 0 (.slice none 0 0)).toArray 36):Hp)
 have e0:=XL.symm
 have y0:h0[h.size]? = some (.cells [.int .i64 g.k,.int .i64 g.a,.int .i64 g.b,.int .i64 g.c,.int .i64 g.d].toArray 81):=by rw[XL,Zs (by simp),Zb]
 have z0:h0[h.size+1]? = some (.cells (WU 0 0 0 0 (.slice none 0 0)).toArray 36):=by rw[XL,Array.getElem?_push,if_pos (by simp)]
 have b0:Zg h.size h h0:=by rw[XL];exact ((Zg.refl _ _).add _).add _
 have u0:hc h0 ⟨h.size,0,none⟩=some (.int .i64 g.k):=Zh y0
 have u1:hc h0 ⟨h.size,1,none⟩=some (.int .i64 g.a):=Zh y0
 have u3:hc h0 ⟨h.size,3,none⟩=some (.int .i64 g.c):=Zh y0
 have ry:rd h0 ⟨h.size,0,none⟩ 5=some [.int .i64 g.k,.int .i64 g.a,.int .i64 g.b,.int .i64 g.c,.int .i64 g.d]:=Zq y0 rfl
 have ly:=Za y0
 have lz:=Za z0
 have rk:=UD g.k (m:=24) (by omega)
 unfold WU at e0
 simp -implicitDefEqProofs only[go_sem,↓reduceIte,e0,u1,u0]
 refine (XX T h0 g.a 5 wa (by omega) (by omega)).pure ?_
 simp -implicitDefEqProofs only[go_sem,↓reduceIte,u0]
 refine (XX T h0 g.k 24 wk (by omega) (by omega)).pure ?_
 obtain⟨A,hA⟩:=ZA (JT g.a 5)
 rw[←hA]
 have fin:∀(g4:Hp) (k n a b:Int) (p:Option Addr) (m c:Nat) (l:List Nat),g4[h.size+1]? = some (.cells (WU 0 0 0 0 (.slice none 0 0)).toArray 36)→Zg h.size h g4→Z1 (h.size+2) 5 g4 (.slice p m c) l→WW g cr=⟨k,n,a,b,l⟩ →
   wr g4 ⟨h.size+1,0,none⟩ [.int .i64 k,.int .i64 n,.int .i64 a,.int .i64 b,.slice p m c]=some (g4.setIfInBounds (h.size+1) (.cells (WU k n a b (.slice p m c)).toArray 36)) ∧
   rd (g4.setIfInBounds (h.size+1) (.cells (WU k n a b (.slice p m c)).toArray 36)) ⟨h.size+1,0,none⟩ 5=some [.int .i64 k,.int .i64 n,.int .i64 a,.int .i64 b,.slice p m c] ∧
   ((∃w,Value.agg [.int .i64 k,.int .i64 n,.int .i64 a,.int .i64 b,.slice p m c].toArray=.agg (X6 (WW g cr,w)).toArray∧Z1 h.size 5 (g4.setIfInBounds (h.size+1) (.cells (WU k n a b (.slice p m c)).toArray 36)) w (WW g cr).data)∧Zg h.size h (g4.setIfInBounds (h.size+1) (.cells (WU k n a b (.slice p m c)).toArray 36))):=fun g4 k n a b p m c l y4 b4 o4 e=>by
  refine⟨by rw[ZR y4 0 _];rfl,Zq (Zv y4) rfl,⟨.slice p m c,by rw[e];rfl,?_⟩,b4.Zm (by omega) _⟩
  rw[e]
  exact (o4.ZT (by omega) _).mono (by omega)
 have nil:=fun B=>Z1.nil B 5 h0
 have c0:JT g.k 24<3∨(¬JT g.k 24<3∧JT g.k 24<5)∨(¬JT g.k 24<5∧JT g.k 24<14)∨JT g.k 24=14∨JT g.k 24=15∨JT g.k 24=16∨JT g.k 24=17∨JT g.k 24=18∨18<JT g.k 24:=by omega
 obtain⟨K,hK⟩:=ZA (JT g.k 24)
 rw[←hK]at c0 rk ⊢
 rcases c0 with c|⟨c,c'⟩|⟨c,c'⟩|c|c|c|c|c|c
 ·simp -implicitDefEqProofs only[go_sem,↓reduceIte,c,ry,ly]
  refine (pkc h0 (tk.Ji b0)).use ?_
  rintro w g4 ⟨o4,b4⟩
  obtain⟨p,cp,rfl,_⟩:=o4.open
  have s0:h0.size=h.size+2:=by rw[XL];simp
  obtain⟨f1,f2,f3⟩:=fin g4 1 A 0 0 p _ cp (T5 g) (b4.get lz z0) (b0.trans (b4.mono b0.size)) (o4.mono (by omega)) (by unfold WW;rw[←hK,if_pos c,←hA])
  have l4:=Za (b4.get lz z0)
  simp -implicitDefEqProofs only[go_sem,↓reduceIte,f1,f2,l4]
  exact f3
 ·obtain⟨f1,f2,f3⟩:=fin h0 2 A 0 0 none 0 0 [] z0 b0 (nil _) (by unfold WW;rw[←hK];rw[if_neg c,if_pos c',←hA])
  simp -implicitDefEqProofs only[go_sem,↓reduceIte,c,c',f1,f2,lz]
  exact f3
 ·obtain⟨f1,f2,f3⟩:=fin h0 3 A 0 0 none 0 0 [] z0 b0 (nil _) (by unfold WW;rw[←hK];rw[if_neg (by omega),if_neg c,if_pos c',←hA])
  have c2:¬K<3:=by omega
  simp -implicitDefEqProofs only[go_sem,↓reduceIte,c,c',c2,f1,f2,lz]
  exact f3
 ·obtain⟨f1,f2,f3⟩:=fin h0 4 0 (JT g.c 20) 0 none 0 0 [] z0 b0 (nil _) (by unfold WW;rw[←hK];rw[c];rfl)
  have t14:¬(14:Int)<3:=by decide
  simp -implicitDefEqProofs only[go_sem,↓reduceIte,c,u3]
  refine (XX T h0 g.c 20 wc (by omega) (by omega)).pure ?_
  simp -implicitDefEqProofs only[go_sem,↓reduceIte,f1,f2,lz]
  exact f3
 ·obtain⟨f1,f2,f3⟩:=fin h0 5 0 (JT g.c 20) 0 none 0 0 [] z0 b0 (nil _) (by unfold WW;rw[←hK];rw[c];rfl)
  have t15:¬(15:Int)<3:=by decide
  simp -implicitDefEqProofs only[go_sem,↓reduceIte,c,u3]
  refine (XX T h0 g.c 20 wc (by omega) (by omega)).pure ?_
  simp -implicitDefEqProofs only[go_sem,↓reduceIte,f1,f2,lz]
  exact f3
 ·obtain⟨f1,f2,f3⟩:=fin h0 6 0 (JT g.c 20) 0 none 0 0 [] z0 b0 (nil _) (by unfold WW;rw[←hK];rw[c];rfl)
  have t16:¬(16:Int)<3:=by decide
  simp -implicitDefEqProofs only[go_sem,↓reduceIte,c,u3]
  refine (XX T h0 g.c 20 wc (by omega) (by omega)).pure ?_
  simp -implicitDefEqProofs only[go_sem,↓reduceIte,f1,f2,lz]
  exact f3
 ·cases cr with
  | true=>
   obtain⟨f1,f2,f3⟩:=fin h0 8 A 0 (JT g.c 90) none 0 0 [] z0 b0 (nil _) (by unfold WW;rw[←hK,c,←hA];rfl)
   simp -implicitDefEqProofs only[go_sem,↓reduceIte,c,u3]
   refine (XX T h0 g.c 90 wc (by omega) (by omega)).pure ?_
   simp -implicitDefEqProofs only[go_sem,↓reduceIte,f1,f2,lz]
   exact f3
  | false=>
   obtain⟨f1,f2,f3⟩:=fin h0 7 0 0 0 none 0 0 [] z0 b0 (nil _) (by unfold WW;rw[←hK,c];rfl)
   simp -implicitDefEqProofs only[go_sem,↓reduceIte,c,f1,f2,lz]
   exact f3
 ·cases cr with
  | true=>
   obtain⟨f1,f2,f3⟩:=fin h0 9 A 0 0 none 0 0 [] z0 b0 (nil _) (by unfold WW;rw[←hK,c,←hA];rfl)
   simp -implicitDefEqProofs only[go_sem,↓reduceIte,c,f1,f2,lz]
   exact f3
  | false=>
   obtain⟨f1,f2,f3⟩:=fin h0 7 0 0 0 none 0 0 [] z0 b0 (nil _) (by unfold WW;rw[←hK,c];rfl)
   simp -implicitDefEqProofs only[go_sem,↓reduceIte,c,f1,f2,lz]
   exact f3
 ·obtain⟨f1,f2,f3⟩:=fin h0 7 0 0 0 none 0 0 [] z0 b0 (nil _) (by unfold WW;rw[←hK,if_neg (by omega),if_neg (by omega),if_neg (by omega),if_neg (by omega),if_neg (by omega),if_neg (by omega),if_neg (by omega),if_neg (by omega)])
  have c3:¬K<3:=by omega
  have c5:¬K<5:=by omega
  have c14:¬K<14:=by omega
  have d14:¬K=14:=by omega
  have d15:¬K=15:=by omega
  have d16:¬K=16:=by omega
  have d17:¬K=17:=by omega
  have d18:¬K=18:=by omega
  simp -implicitDefEqProofs only[go_sem,↓reduceIte,c3,c5,c14,d14,d15,d16,d17,d18,f1,f2,lz]
  exact f3
def gj:Raw:=⟨7,0,0,0,[]⟩
def T6 (n:Nat) (a:Raw):Raw:=if a.k=1∧6<n+1 then gj else a
def Sv (cr:Bool) (st:Nat × List Raw) (g:Gr):Nat × List Raw:=(if (WW g cr).k=1 then st.1+1 else st.1,st.2++[T6 st.1 (WW g cr)])
def T7 (gs:List Gr) (cr:Bool) (j:Nat):Nat × List Raw:=(gs.take j).foldl (Sv cr) (0,[])
def vp (gs:List Gr) (Xm:Nat) (cr:Bool):List Raw:=(T7 gs cr Xm).2
theorem Hh (gs:List Gr) (cr:Bool) (j:Nat) (hj:j<gs.length):T7 gs cr (j+1)=Sv cr (T7 gs cr j) gs[j]:=by
 unfold T7
 rw[Yd gs j hj,List.foldl_append]
 rfl
theorem P9 (gs:List Gr) (cr:Bool):∀j,j≤gs.length→(T7 gs cr j).2.length=j∧(T7 gs cr j).1≤j:=by
 intro j
 induction j with
 | zero=>intro _;exact⟨rfl,Nat.le_refl _⟩
 | succ j ih=>
  intro h
  obtain⟨h1,h2⟩:=ih (by omega)
  rw[Hh gs cr j (by omega)]
  unfold Sv
  simp only[List.length_append,List.length_singleton]
  refine⟨by omega,?_⟩
  split<;>omega
theorem Dz (gs:List Gr) (cr:Bool) (j:Nat) (h:gs.length≤j):T7 gs cr j=T7 gs cr gs.length:=by
 unfold T7
 rw[List.take_of_length_le h,List.take_of_length_le (Nat.le_refl _)]
theorem gk {B:Nat} {h:Hp} {v:Value} {l:List Nat} {o:Ow} (s:Z1 B 5 h v l) (hf:∀b,B≤b→o b=none):Vz o h v l:=⟨Im.QJ s.own hf,s.byte⟩
set_option maxHeartbeats 4000000 in
theorem AE (T:World) (h:Hp) (v:Value) (gs:List Gr) (Xm:Nat) (cr:Bool) (hv:Ts Gr.C 5 h v gs) (hg:∀g∈gs,g.ok) (hm:Xm≤1000000) (tk:Tk h) :
  Zc Tryz.prog T 16 #[v,.int .i64 Xm,.bool cr] h fun v' h'=>Zg h.size h h'∧VF v'∧∃ys,YM ys=vp gs Xm cr∧Ts X6 5 h' v' ys∧(∀y∈ys,Vz SI h' y.2 y.1.data)∧(∀y∈ys,∀b,ZN y.2=some b→h.size≤b)∧∀b,ZN v'=some b→h.size≤b∧b<h'.size:=by
 obtain⟨p,c,rfl,YO⟩:=hv.open (n:=5) (enc:=Gr.C) (fun _=>rfl) (by decide)
 refine Zc.Zi (args:=[_,_,_]) Tryz.func16 rfl rfl rfl rfl ?_
 simp -implicitDefEqProofs only[go_sem,↓reduceIte]
 refine VS.ZW (fun F g=>(F 0=.slice p gs.length c∧F 1=.int .i64 Xm∧F 2=.bool cr)∧∃(j:Nat) (o:Ow) (ys:List (Raw × Value)),j≤gs.length∧j≤Xm∧F 9=.int .i64 j∧F 8=.int .i64 ((T7 gs cr j).1:Nat)∧Kp (fun t=>t=.log 100) SI h o g∧YM ys=(T7 gs cr j).2∧Yt o (.log 100) 36 5 g (F 7) ys.length (Zz X6 ys)∧(∀y∈ys,Vz o g y.2 y.1.data)∧∀y∈ys,∀b,ZN y.2=some b→h.size≤b)
  (fun F _=>gs.length-(vi (F 9)).toNat) rfl ⟨⟨rfl,rfl,rfl⟩,0,SI,[],Nat.zero_le _,Nat.zero_le _,rfl,rfl,Kp.refl (OM h) _,rfl,Yt.nil _ _ _ _ _,(fun y hy=>by cases hy),fun y hy=>by cases hy⟩ ?_
 rintro F2 g2 ⟨⟨f0,f1,f2⟩,j,o2,ys,hj,hjm,f9,f8,K2,hr,O2,I2,N2⟩
 have yl:ys.length=j:=by
  have:=congrArg List.length hr
  unfold YM at this
  rw[List.length_map,(P9 gs cr j hj).1]at this
  exact this
 obtain⟨p3,c3,f3,hc3⟩:=O2.isSlice
 by_cases ZC:j<gs.length∧j<Xm
 ·obtain⟨ZC,ZnD⟩:=ZC
  have ZL:(j:Int)<gs.length:=by omega
  have ZeJ:(j:Int)<Xm:=by omega
  obtain⟨bb,oo,rfl,UP,PV⟩:=YO (by intro e;rw[e]at ZC;simp at ZC)
  obtain⟨g,uP⟩:=ZA (gs[j])
  have hgm:g∈gs:=by rw[uP];exact List.getElem_mem ZC
  have r1:rd g2 ⟨bb,oo+j*5,none⟩ 5=some g.C:=by rw[JI (T4 K2) UP,uP];exact (PV j ZC).rd (by simp[Gr.C]) rfl
  have ca:=gi T g2 g cr (hg g hgm) (tk.Ji (T4 K2))
  unfold Gr.C at ca r1
  simp -implicitDefEqProofs only[go_sem,↓reduceIte,f0,f1,f2,f9,ZL,ZeJ,r1]
  refine ca.use ?_
  rintro vv g3 ⟨⟨w,hvv,o3⟩,b3⟩
  obtain⟨a,ha⟩:=ZA (WW g cr)
  rw[←ha]at o3 hvv
  obtain⟨p4,c4,rfl,_⟩:=o3.open
  have hvv:vv=.agg #[.int .i64 a.k,.int .i64 a.n,.int .i64 a.a,.int .i64 a.b,.slice p4 a.data.length c4]:=by rw[hvv];rfl
  subst hvv
  obtain⟨n,hn⟩:=ZA ((T7 gs cr j).1)
  rw[←hn]at f8
  have hnj:n≤j:=by rw[hn];exact (P9 gs cr j hj).2
  obtain⟨g4,PU⟩:=ZA (g3.push (.cells (WU a.k a.n a.a a.b (.slice p4 a.data.length c4)).toArray 36):Hp)
  have e4:=PU.symm
  have y4:g4[g3.size]? = some (.cells (WU a.k a.n a.a a.b (.slice p4 a.data.length c4)).toArray 36):=by rw[PU];exact Zb
  have K3:Kp Qh o2 g2 o2 g3:=ZD K2.ZX b3
  have k4:Kp Qh o2 g3 o2 g4:=by rw[PU];exact ZY K3.ZX _
  have K4:=K3.trans k4
  have i3:Vz o2 g3 (.slice p4 a.data.length c4) a.data:=gk o3 (fun b hb=>K2.ZX b hb)
  have i4:=i3.Zd k4
  have rk:hc g4 ⟨g3.size,0,none⟩=some (.int .i64 a.k):=Zh y4
  have l4:=Za y4
  have hs3:=b3.size
  have h5c:∃(g5:Hp) (q:Option Addr) (cq:Nat),((¬a.k=1∧g5=g4)∨((a.k=1∧¬(n:Int)+1>6)∧g5=g4)∨((a.k=1∧(n:Int)+1>6)∧wr g4 ⟨g3.size,0,none⟩ [.int .i64 7,.int .i64 0,.int .i64 0,.int .i64 0,.slice none 0 0]=some g5)) ∧
    g5[g3.size]? = some (.cells (WU (T6 n a).k (T6 n a).n (T6 n a).a (T6 n a).b (.slice q (T6 n a).data.length cq)).toArray 36)∧Kp Qh o2 g2 o2 g5∧Vz o2 g5 (.slice q (T6 n a).data.length cq) (T6 n a).data∧g3.size<g5.size∧∀b,ZN (.slice q (T6 n a).data.length cq)=some b→h.size≤b:=by
   have ZeK:∀b,ZN (.slice p4 a.data.length c4)=some b→h.size≤b:=fun b hb=>Nat.le_trans K2.size (o3.own.ZE b hb)
   by_cases q1:a.k=1
   ·by_cases q6:6<n+1
    ·have eX:T6 n a=gj:=by unfold T6;rw[if_pos ⟨q1,q6⟩]
     rw[eX]
     refine⟨_,none,0,.inr (.inr ⟨⟨q1,by omega⟩,by rw[ZR y4 0 _];rfl⟩),Zv y4,K4.CS (by omega) _,⟨Im.nil _ 1 _ none,fun x hx=>by cases hx⟩,by simpa using l4,fun b hb=>by simp[ZN]at hb⟩
    ·have eX:T6 n a=a:=by unfold T6;rw[if_neg (fun h=>q6 h.2)]
     rw[eX]
     exact⟨g4,p4,c4,.inr (.inl ⟨⟨q1,by omega⟩,rfl⟩),y4,K4,i4,l4,ZeK⟩
   ·have eX:T6 n a=a:=by unfold T6;rw[if_neg (fun h=>q1 h.1)]
    rw[eX]
    exact⟨g4,p4,c4,.inl ⟨q1,rfl⟩,y4,K4,i4,l4,ZeK⟩
  obtain⟨g5,q,cq,Kc,y5,K5,i5,l5,n5⟩:=h5c
  obtain⟨X,hX⟩:=ZA (T6 n a)
  rw[←hX]at y5 i5 n5
  have eN:T7 gs cr (j+1)=(if a.k=1 then n+1 else n,(T7 gs cr j).2++[X]):=by rw[Hh gs cr j ZC,←uP];unfold Sv;rw[←ha,←hn,hX]
  have r5:rd g5 ⟨g3.size,0,none⟩ 5=some (WU X.k X.n X.a X.b (.slice q X.data.length cq)):=Zq y5 rfl
  obtain⟨g6,SG⟩:=ZA (g5.push (.cells (WU X.k X.n X.a X.b (.slice q X.data.length cq)).toArray 36):Hp)
  have e6:=SG.symm
  have k6:Kp Qh o2 g5 o2 g6:=by rw[SG];exact ZY K5.ZX _
  have x6:g6[g5.size]? = some (.cells (WU X.k X.n X.a X.b (.slice q X.data.length cq)).toArray 36):=by rw[SG];exact Zb
  have src:Sl 5 g6 (.slice (some ⟨g5.size,0,none⟩) 1 1) 1 (WU X.k X.n X.a X.b (.slice q X.data.length cq)):=⟨_,1,rfl,rfl,fun _=>⟨g5.size,0,rfl,fun i hi=>by
   rw[Zh x6,Yk,Nat.zero_add];exact List.getElem?_eq_getElem hi⟩⟩
  have O6:=(O2.Zd K5 (fun q=>q)).Zd k6 (fun q=>q)
  rw[f3]at O6
  have stp:∀v7 o7 (g7:Hp),Yt o7 (.log 100) 36 5 g7 v7 (ys.length+1) (Zz X6 ys++WU X.k X.n X.a X.b (.slice q X.data.length cq))→Kp (fun u=>u=.log 100) o2 g6 o7 g7 →
    Kp (fun t=>t=.log 100) SI h o7 g7∧YM (ys++[(X,.slice q X.data.length cq)])=(T7 gs cr (j+1)).2∧Yt o7 (.log 100) 36 5 g7 v7 (ys++[(X,Value.slice q X.data.length cq)]).length (Zz X6 (ys++[(X,.slice q X.data.length cq)]))∧(∀y∈ys++[(X,Value.slice q X.data.length cq)],Vz o7 g7 y.2 y.1.data)∧∀y∈ys++[(X,Value.slice q X.data.length cq)],∀b,ZN y.2=some b→h.size≤b:=fun v7 o7 g7 O7 k7=>by
   refine⟨((K2.trans (ZF K5)).trans (ZF k6)).trans k7,?_,?_,fun y hy=>?_,fun y hy=>?_⟩
   ·rw[eN,←hr]
    unfold YM
    simp only[List.map_append,List.map_cons,List.map_nil]
   ·have e:Zz X6 (ys++[(X,.slice q X.data.length cq)])=Zz X6 ys++WU X.k X.n X.a X.b (.slice q X.data.length cq):=by rw[Yf,QV];rfl
    rw[e,List.length_append]
    exact O7
   ·rcases List.mem_append.1 hy with hy|hy
    ·exact (((I2 y hy).Zd K5).Zd k6).Zd k7
    ·rw[List.mem_singleton.1 hy]
     exact (i5.Zd k6).Zd k7
   ·rcases List.mem_append.1 hy with hy|hy
    ·exact N2 y hy
    ·rw[List.mem_singleton.1 hy];exact n5
  unfold WU at e4 r5 e6
  rcases Kc with⟨q1,e54⟩|⟨⟨q1,q6⟩,e54⟩|⟨⟨q1,q6⟩,w5⟩
  case' inl=>subst e54
  case' inl=>simp -implicitDefEqProofs only[go_sem,↓reduceIte,e4,rk,q1,r5,l5,e6,f3]
  case' inr.inl=>subst e54
  case' inr.inl=>have q1t:=eq_true q1
  case' inr.inl=>simp -implicitDefEqProofs only[go_sem,↓reduceIte,e4,rk,q1t,f8,q6,r5,l5,e6,f3]
  case' inr.inr=>have q1t:=eq_true q1
  case' inr.inr=>simp -implicitDefEqProofs only[go_sem,↓reduceIte,e4,rk,q1t,f8,q6,w5,l4,r5,l5,e6,f3]
  all_goals
   refine XQ (E:=36) (n:=5) (bytes:=56) (k:=1) jV Tryz.underlying23 wK wP rfl wM O6 k6.ZX src rfl (by omega) (by omega) ?_
   intro v7 o7 g7 O7 k7 _
   have k7:Kp (fun u=>u=.log 100) o2 g6 o7 g7:=k7
   obtain⟨z1,z2,z3,z4,z5⟩:=stp v7 o7 g7 O7 k7
   simp -implicitDefEqProofs only[go_sem,↓reduceIte,f9]
   unfold Y9
   refine⟨⟨⟨f0,f1,f2⟩,j+1,o7,ys++[(X,Value.slice q X.data.length cq)],ZC,ZnD,rfl,?_,z1,z2,?_,z4,z5⟩,?_⟩
   ·rw[eN]
    first
    | (rw[if_pos q1];rfl)
    | (rw[if_neg q1];exact f8)
   ·exact z3
   ·simp only[vi,Zl,↓reduceIte,f9];omega
 have e9:vp gs Xm cr=(T7 gs cr j).2:=by
  unfold vp
  by_cases q:j<gs.length
  ·rw[show Xm=j by omega]
  ·rw[show j=gs.length by omega,Dz gs cr Xm (by omega)]
 have fin:∀b,ZN (F2 7)=some b→h.size≤b∧b<g2.size:=fun b hb=>by
  have ho:=nA O2 hb
  refine⟨Dx K2 ho,?_⟩
  refine Classical.byContradiction fun q=>?_
  rw[K2.ZX b (by omega)]at ho;cases ho
 by_cases Oo:j<gs.length
 ·have ZL:(j:Int)<gs.length:=by omega
  have YF:¬(j:Int)<Xm:=by omega
  simp -implicitDefEqProofs only[go_sem,↓reduceIte,f0,f1,f9,ZL,YF]
  exact⟨T4 K2,by rw[f3];exact hc3,ys,by rw[hr,e9],⟨O2.sl⟩,(fun y hy=>⟨⟨(I2 y hy).1.sl,(I2 y hy).1.fits,fun b hb=>⟨((I2 y hy).1.free b hb).1,rfl⟩⟩,(I2 y hy).2⟩),N2,fin⟩
 ·have ZL:¬(j:Int)<gs.length:=by omega
  simp -implicitDefEqProofs only[go_sem,↓reduceIte,f0,f1,f9,ZL]
  exact⟨T4 K2,by rw[f3];exact hc3,ys,by rw[hr,e9],⟨O2.sl⟩,(fun y hy=>⟨⟨(I2 y hy).1.sl,(I2 y hy).1.fits,fun b hb=>⟨((I2 y hy).1.free b hb).1,rfl⟩⟩,(I2 y hy).2⟩),N2,fin⟩
theorem gm (T:World) (h:Hp) (v:Value) (gs:List Gr) (Xm:Nat) (cr:Bool) (hv:Ts Gr.C 5 h v gs) (hg:∀g∈gs,g.ok) (hm:Xm≤1000000) (tk:Tk h) :
  Zc Tryz.prog T 16 #[v,.int .i64 Xm,.bool cr] h fun v' h'=>Zg h.size h h'∧VF v'∧∃ys,YM ys=vp gs Xm cr∧Ts X6 5 h' v' ys∧∀y∈ys,Vz SI h' y.2 y.1.data:=
 (AE T h v gs Xm cr hv hg hm tk).mono fun _ _ ⟨q1,q2,ys,q3,q4,q5,_,_⟩=>⟨q1,q2,ys,q3,q4,q5⟩
end Go.Proofs.YtkfhncfkagcamaaGreatDoor

/- The pieces of an act: setting a node, what a tape's records make, all letters come. -/
import Derived.Test.YtpomedigibbeeaaGreatDoorMdg
import Derived.Test.YtpomedigibbeeaaGreatDoorLchks
import Derived.Test.YtpomedigibbeeaaGreatDoorPak
namespace Go.Proofs.YtpomedigibbeeaaGreatDoor
open Go Go.V
set_option linter.unusedSimpArgs false
set_option linter.unusedVariables false
set_option maxRecDepth 100000
theorem zC {l:List Nat} {a r:WT} {k j:Nat} (h:Rec l a k r j):∀f,l.length+1≤k+f→LX l f a k=(r,j):=by
 induction h with
 | stop e=>
  intro f hf
  cases f with
  | zero=>rfl
  | succ f=>unfold LX;rw[e]
 | @go a a' r k k' j e _ ih=>
  intro f hf
  have e':=e
  unfold Xy at e'
  split at e'
  ·rename_i q
   rw[Option.map_eq_some_iff]at e'
   obtain⟨x,_,hx⟩:=e'
   have hk:k'=k+(ES l k+4):=(congrArg Prod.snd hx).symm
   cases f with
   | zero=>omega
   | succ f=>
    unfold LX
    rw[e]
    exact ih f (by omega)
  ·cases e'
theorem GL {l:List Nat} {r:WT} {k:Nat} (h:Rec l Qp 0 r k):TU l=(r,k):=zC h _ (by omega)
theorem Hf {o:Ow} {h:Hp} {wb:Nat} {Z4:Nat→Nat} {Yy:WA} {fl:List YY} {bad:Nat→Int} {told:List TS} (d:Q3 o h) (W:ZE o h wb Z4 Yy fl bad told) (i nb:Nat) (hi:i<5) :
  ∃b off c g,Yy.nodes=.slice (some ⟨b,off,none⟩) 5 c∧Jg h ⟨b,off+i,none⟩ (Zn nb)=some g∧Kp (fun t=>t=.nodes) o h o g∧ZE o g wb (fun j=>if j=i then nb else Z4 j) Yy fl bad told:=by
 rcases hw:W.nodes with⟨_,e,_⟩|⟨b,off,cap,pre,spare,g1,g2,g3,g4,g5,g6,g7⟩
 ·cases e
 have hw':Jg h ⟨b,off+i,none⟩ (Zn nb)=some (h.setIfInBounds b (.cells (pre++([Zn (Z4 0),Zn (Z4 1),Zn (Z4 2),Zn (Z4 3),Zn (Z4 4)].set i (Zn nb)++spare)).toArray 98)):=by
  rw[Yp g3,if_pos ⟨by simp only[List.length_append,List.length_cons];omega,rfl⟩]
  rw[←g4,List.set_append_right _ _ (by omega),Nat.add_sub_cancel_left,List.set_append_left _ _ (by simpa using hi)]
 have kk:Kp (fun t=>t=.nodes) o h o (h.setIfInBounds b (.cells (pre++([Zn (Z4 0),Zn (Z4 1),Zn (Z4 2),Zn (Z4 3),Zn (Z4 4)].set i (Zn nb)++spare)).toArray 98)):=(Kp.refl d (fun t=>t=.nodes)).set g1 rfl _
 refine⟨b,off,cap,_,g2,hw',kk,W.ZD.Zd kk (by intro e;cases e),?_,W.Zl.Zd kk (by intro e;cases e),W.told.Zd kk (by intro e;cases e)⟩
 refine .inr ⟨b,off,cap,pre,spare,g1,g2,?_,g4,rfl,g6,g7⟩
 rw[Zt g3]
 match i,hi with
 | 0,_=>rfl
 | 1,_=>rfl
 | 2,_=>rfl
 | 3,_=>rfl
 | 4,_=>rfl
def WQ (k n a b:Int) (d:Value):List Value:=[.int .i64 k,.int .i64 n,.int .i64 a,.int .i64 b,d]
structure WOk (w:Wd):Prop where
 me:∀i,i<5→(w.nodes i).me=i
 step:∀i,i<5→Ap (w.nodes i) w.Zl.length w.told.length
 queue:∀i,i<5→(w.nodes i).queue.length≤100000000000
 log:∀i,i<5→(w.nodes i).log.length≤100000000000
 waiting:∀i,i<5→(w.nodes i).waiting.length≤100000000000
 inbox:∀i,i<5→(w.nodes i).inbox.length≤100000000000
 data:∀i,i<5→(w.nodes i).data.length≤1000000
 told:w.told.length≤100000000000
 bad:∀i,i<5→0≤w.bad i∧w.bad i≤1000000000000
 Znx:∀i,i<5→(w.nodes i).own.p.r≤1000000000000∧(w.nodes i).heard.r≤1000000000000 ∧ -1000000000000≤(w.nodes i).own.p.r ∧ -1000000000000≤(w.nodes i).heard.r
 rgn:∀i,i<5→∀r,(w.nodes i).Zi=some r→r.b.r≤1000000000000 ∧ -1000000000000≤r.b.r
 to:∀l∈w.Zl,0≤l.to∧l.to<5
 room:w.Zl.length≤100000000000
theorem X2.fresh {o o':Ow} {h h':Hp} {wb:Nat} {Z4:Nat→Nat} {Yy:WA} {w:Wd} {i nb:Nat} {a:NA} {n:Nd} (A:X2 o h wb Z4 Yy w) (k:Kp (fun t=>t=.nodes∨t.of=some i) o h o' h')
  (N:ZH o' h' wb i nb a n) (W:ZE o' h' wb (fun j=>if j=i then nb else Z4 j) Yy w.Zl w.bad w.told):X2 o' h' wb (fun j=>if j=i then nb else Z4 j) Yy (w.set i n):=by
 refine⟨W,fun j hj=>?_⟩
 by_cases e:j=i
 ·subst e
  refine⟨a,?_⟩
  unfold Wd.set
  simpa using N
 ·obtain⟨b,M⟩:=A.nd j hj
  refine⟨b,?_⟩
  unfold Wd.set
  simp only[if_neg e]
  refine M.Zd k fun t q hq=>?_
  rcases q with rfl|q
  ·cases hq
  ·rw[hq]at q;exact e (Option.some.inj q)
theorem TY (w:Wd) (i:Nat):w.set i (w.nodes i)=w:=by
 unfold Wd.set
 have:(fun j=>if j=i then w.nodes i else w.nodes j)=w.nodes:=by
  funext j;split
  ·next e=>rw[e]
  ·rfl
 rw[this]
theorem Kg {o:Ow} {h':Hp} {p:Option Addr} {c:Nat} {L:List Nat} (d:Q3 o h') (hb:Bs h' (.slice p L.length c) L) (hc:L.length≤c) (hf:∀b,ZL (.slice p L.length c)=some b→o b=none∧b<h'.size):VT o h' (.slice p L.length c) L:=
 ⟨⟨hb.sl,⟨p,c,rfl,hc⟩,fun b q=>⟨(hf b q).2,(hf b q).1⟩⟩,hb.byte⟩
theorem Dn {o:Ow} {h:Hp} {v:Value} {l:List Nat} {k:Nat} (d:Q3 o h) (s:VT o h v l) (hk:k<h.size) (hv:∀b,ZL v=some b→b≠k) (x:Obj):VT o (h.setIfInBounds k x) v l:=by
 have d2:Q3 (Ji o k Tg.nodes) h:=fun b hb=>by rw[YW (by omega)];exact d b hb
 have s2:VT (Ji o k Tg.nodes) h v l:=⟨⟨s.1.sl,s.1.fits,fun b hb=>⟨(s.1.free b hb).1,by rw[YW (hv b hb)];exact (s.1.free b hb).2⟩⟩,s.2⟩
 have k2:Kp (fun t=>t=Tg.nodes) (Ji o k Tg.nodes) h (Ji o k Tg.nodes) (h.setIfInBounds k x):=(Kp.refl d2 (fun t=>t=Tg.nodes)).set YR rfl x
 have s3:=s2.Zd k2
 exact⟨⟨s3.1.sl,s3.1.fits,fun b hb=>⟨(s3.1.free b hb).1,(s.1.free b hb).2⟩⟩,s3.2⟩
theorem At (i:Nat) (n:Nd) (k:Int) (L:List Nat) (Z E:Int) (hu:n.up=true) (h:TH n.data n.Xq k=(L,Z,E)):crashed i n k = { blank i true L Z Qp with up:=false }:=by
 unfold crashed
 rw[if_pos hu]
 unfold TH at h
 by_cases c:Y1 n.data n.Xq
 ·rw[if_pos (show n.data.length≤100000∧0≤n.Xq∧n.Xq≤n.data.length from c)]at h
  by_cases q:k<0
  ·rw[if_pos q]at h
   cases h
   rw[if_neg (fun e=>by have:=e.2;omega)];rfl
  ·rw[if_neg q]at h
   cases h
   rw[if_pos ⟨c,by omega⟩];rfl
 ·rw[if_neg (show ¬(n.data.length≤100000∧0≤n.Xq∧n.Xq≤n.data.length) from c)]at h
  cases h
  rw[if_neg (fun e=>c e.1)];rfl
theorem Au (w:Wd) (l:YY) (i:Nat):((QV w l).nodes i).inbox.length≤(w.nodes i).inbox.length+1:=by
 unfold QV
 split
 ·unfold Wd.set
  simp only
  split
  ·next e=>subst e;simp
  ·omega
 ·omega
theorem Dp (i:Nat):∀(ls:List YY) (w:Wd),((ls.foldl QV w).nodes i).inbox.length≤(w.nodes i).inbox.length+ls.length:=by
 intro ls
 induction ls with
 | nil=>intro w;simp
 | cons l ls ih=>
  intro w
  have h1:=ih (QV w l)
  have h2:=Au w l i
  simp only[List.foldl_cons,List.length_cons]
  omega
def UU (l:List Vt):Prop:=(∀x∈l,Z9 x)∧l.Pairwise (fun a b=>a.slot<b.slot)
structure Hg (a:WT):Prop where
 bal:ZS a.p∨(a.p.r=0∧a.p.n=0)
 Jk:UU a.l
def PS (b:XL):Prop:=0≤b.r∧b.r≤65536
theorem Av:∀(l:List Vt) (a:Int),l.Pairwise (fun a b=>a.slot<b.slot)→(∀x∈l,a≤x.slot∧x.slot≤39)→a≤40→(l.length:Int)≤40-a:=by
 intro l
 induction l with
 | nil=>intro a _ _ h;simp;omega
 | cons x l ih=>
  intro a hp hx ha
  rw[List.pairwise_cons]at hp
  have h1:=hx x (by simp)
  have:=ih (x.slot+1) hp.2 (fun y hy=>⟨by have:=hp.1 y hy;omega,(hx y (by simp[hy])).2⟩) (by omega)
  simp only[List.length_cons]
  omega
theorem UU.len {l:List Vt} (h:UU l):l.length≤40:=by
 have:=Av l 0 h.2 (fun x hx=>⟨(h.1 x hx).1.1,(h.1 x hx).1.2⟩) (by omega)
 omega
theorem UU.nil:UU []:=⟨fun x hx=>by (cases hx),.nil⟩
theorem UU.ins {l:List Vt} (h:UU l) {v:Vt} (hv:Z9 v):UU (Qv l v):=by
 unfold Qv
 refine⟨fun x hx=>?_,?_⟩
 ·rcases List.mem_append.1 hx with hx|hx
  ·exact h.1 x (List.mem_filter.1 hx).1
  ·rcases List.mem_cons.1 hx with rfl|hx
   ·exact hv
   ·exact h.1 x (List.mem_filter.1 hx).1
 ·rw[List.pairwise_append,List.pairwise_cons]
  refine⟨h.2.sublist List.filter_sublist,⟨fun y hy=>by simpa using (List.mem_filter.1 hy).2,h.2.sublist List.filter_sublist⟩,fun x hx y hy=>?_⟩
  have h1:x.slot<v.slot:=by simpa using (List.mem_filter.1 hx).2
  rcases List.mem_cons.1 hy with rfl|hy
  ·exact h1
  ·have h2:v.slot<y.slot:=by simpa using (List.mem_filter.1 hy).2
   omega
theorem Hg.zero:Hg Qp:=⟨.inr ⟨rfl,rfl⟩,UU.nil⟩
theorem ZS.I {b:XL} (h:ZS b):PS b:=⟨by have:=h.1.1;omega,h.1.2⟩
theorem Hg.nj {a:WT} (h:Hg a):PS a.p:=by
 rcases h.bal with q|q
 ·exact q.I
 ·unfold PS;omega
structure Qf (C:List Cm) (l:YY):Prop where
 kind:0≤l.kind∧l.kind≤7
 Jj:0≤l.Jj∧l.Jj<5
 to:0≤l.to∧l.to<5
 b:PS l.b
 slot:0≤l.v.slot∧l.v.slot<40
 vs:UU l.vs
 cmd:l.kind=4→l.v.cm∈C
def PT {β:Type} (m:Int) (l:List (Int × β)):Prop:=(l.map (·.1)).Nodup∧∀x∈l.map (·.1),0≤x∧x<m
theorem PT.nil {β:Type} (m:Int):PT m ([]:List (Int × β)):=⟨by simp,fun x hx=>by (cases hx)⟩
theorem PT.ins {β:Type} {m:Int} {l:List (Int × β)} (h:PT m l) {k:Int} (hk:0≤k∧k<m) (v:β):PT m (ins l k v):=by
 obtain⟨h1,h2⟩:=Ka (k:=k) (v:=v) h.1
 refine⟨h1,fun x hx=>?_⟩
 rcases h2 x hx with rfl|q
 ·exact hk
 ·exact h.2 x q
theorem gd:∀(m:Nat) (l:List Int),l.Nodup→(∀x∈l,0≤x∧x<(m:Int))→l.length≤m:=by
 intro m
 induction m with
 | zero=>
  intro l _ h
  cases l with
  | nil=>simp
  | cons x l=>have:=h x (by simp);omega
 | succ m ih=>
  intro l hn h
  have h1:=ih (l.erase (m:Int)) (hn.erase _) (fun x hx=>by
   have hx':=(List.Nodup.mem_erase_iff hn).1 hx
   have:=h x hx'.2
   have:x≠(m:Int):=hx'.1
   omega)
  have:l.length≤(l.erase (m:Int)).length+1:=by rw[List.length_erase];split<;>omega
  omega
theorem PT.len {β:Type} {m:Nat} {l:List (Int × β)} (h:PT (m:Int) l):l.length≤m:=by
 have:=gd m _ h.1 h.2
 simpa using this
structure GM (r:Qd):Prop where
 b:PS r.b
 prom:PT 5 r.prom
 vs:∀x∈r.prom,UU x.2
 VU:∀x∈r.Jk,PT 5 x.2
def ZeG:DS→Prop
 | .Ig a to b vs=>Hg a∧(0≤to∧to<5)∧PS b∧UU vs
 | .Kx a to v=>Hg a∧(0≤to∧to<5)∧Z9 v
 | .own a vs _=>Hg a∧UU vs
structure Qh (C:List Cm) (i:Nat) (n:Nd):Prop where
 me:n.me=i
 Xh:0≤n.Xh∧n.Xh<5
 own:Hg n.own
 heard:PS n.heard
 ZQ:∀p,n.ZQ=some p→ZeG p
 Zi:∀r,n.Zi=some r→GM r
 known:PT 40 n.known
 log:∀j,j<n.log.length→(Y9 n.known (j:Int)).isSome=true
 queue:n.queue.Nodup∧∀x∈n.queue,x∈C
 data:n.data.length≤100000
theorem Qh.Aw {C:List Cm} {i:Nat} {n:Nd} (h:Qh C i n):n.log.length≤40:=by
 have h1:=E9 n.known 0 n.log.length (fun j hj=>by simpa using h.log j hj)
 have h2:=h.known.len (m:=40)
 omega
theorem OH {p:XL} {l:List Vt} {b:XL} (h:Yu p l b=0):ZS b:=by
 unfold Yu at h
 by_cases c1:XC p l≠0
 ·rw[if_pos c1]at h;cases h
 ·rw[if_neg c1]at h
  by_cases c2:¬ZS b
  ·rw[if_pos c2]at h;cases h
  ·simpa using c2
theorem Hh {p:XL} {l:List Vt} {x:Vt} (h:YT p l x=0):Z9 x:=by
 unfold YT at h
 by_cases c1:XC p l≠0
 ·rw[if_pos c1]at h;cases h
 ·rw[if_neg c1]at h
  by_cases c2:¬Z9 x
  ·rw[if_pos c2]at h;cases h
  ·simpa using c2
theorem Dq {l:List Nat} {n:Int} {k:Nat} (h:Js l n k=0):l.length+(k+5)≤100000:=by
 unfold Js at h
 by_cases c1:¬Y1 l n
 ·rw[if_pos c1]at h;cases h
 ·rw[if_neg c1]at h
  by_cases c2:100000<l.length+(k+5)
  ·rw[if_pos c2]at h;cases h
  ·omega
theorem Dr {l:List Nat} {n:Int} {b:XL} (h:Qn l n b=0):l.length+14≤100000:=by
 unfold Qn at h
 by_cases c1:¬Y1 l n
 ·rw[if_pos c1]at h;cases h
 ·rw[if_neg c1]at h
  by_cases c2:¬ZS b
  ·rw[if_pos c2]at h;cases h
  ·rw[if_neg c2]at h;exact Dq h
theorem nk {l:List Nat} {n:Int} {x:Vt} (h:Uc l n x=0):l.length+38≤100000:=by
 unfold Uc at h
 by_cases c1:¬Y1 l n
 ·rw[if_pos c1]at h;cases h
 ·rw[if_neg c1]at h
  by_cases c2:¬Z9 x
  ·rw[if_pos c2]at h;cases h
  ·rw[if_neg c2]at h;exact Dq h
theorem bF (b:XL):(Y0 (Qo b)).length=14:=by rw[TO];rfl
theorem ti (x:Vt):(Y0 (Sw x)).length=38:=by rw[TO];rfl
structure VW (C:List Cm) (i:Nat) (n:Nd) (o:Out):Prop where
 nd:Qh C i o.n
 ls:∀l∈o.ls,Qf C l
 few:o.ls.length≤1
 ts:o.ts.length+o.n.waiting.length≤n.waiting.length
theorem VW.same {C:List Cm} {i:Nat} {n:Nd} (h:Qh C i n):VW C i n ⟨n,[],[]⟩:=⟨h,(fun l hl=>by cases hl),by simp,by simp⟩
theorem VW.one {C:List Cm} {i:Nat} {n:Nd} (h:Qh C i n) {l:YY} (hl:Qf C l):VW C i n ⟨n,[l],[]⟩:=⟨h,fun x hx=>by
 have:x=l:=by simpa using hx
 rw[this];exact hl,by simp,by simp⟩
theorem Ax {C:List Cm} {i:Nat} {n:Nd} {l:YY} (hi:i<5) (h:Qh C i n) (hl:Qf C l):VW C i n (YO n l):=by
 have GX:0≤(n.me:Int)∧(n.me:Int)<5:=by rw[h.me];omega
 have v0:0≤Tm.slot∧Tm.slot<40:=by decide
 unfold YO
 by_cases c1:Yu n.own.p n.own.l l.b≠0
 ·rw[if_pos c1]
  exact VW.one h ⟨by simp,GX,hl.Jj,h.own.nj,v0,UU.nil,fun e=>by cases e⟩
 rw[if_neg c1]
 have hb:ZS l.b:=OH (by simpa using c1)
 by_cases c2:n.own.p=l.b
 ·rw[if_pos c2]
  exact VW.one h ⟨by simp,GX,hl.Jj,hl.b,v0,h.own.Jk,fun e=>by cases e⟩
 rw[if_neg c2]
 by_cases c3:Qn n.data n.Xq l.b≠0
 ·rw[if_pos c3];exact VW.same h
 rw[if_neg c3]
 have hd:=Dr (by simpa using c3)
 refine⟨{ h with ZQ:=?_,data:=?_ },(fun x hx=>by cases hx),by simp,by simp⟩
 ·intro p hp
  obtain rfl:=Option.some.inj hp
  exact⟨⟨.inl hb,h.own.Jk⟩,hl.Jj,hb.I,h.own.Jk⟩
 ·show (n.data++Y0 (Qo l.b)).length≤100000
  rw[List.length_append,bF];exact hd
theorem tj {C:List Cm} {i:Nat} {n:Nd} {l:YY} (hi:i<5) (h:Qh C i n) (hl:Qf C l):VW C i n (asked n l):=by
 have GX:0≤(n.me:Int)∧(n.me:Int)<5:=by rw[h.me];omega
 have v0:0≤Tm.slot∧Tm.slot<40:=by decide
 unfold asked
 by_cases c1:YT n.own.p n.own.l l.v≠0
 ·rw[if_pos c1]
  exact VW.one h ⟨by simp,GX,hl.Jj,h.own.nj,v0,UU.nil,fun e=>by cases e⟩
 rw[if_neg c1]
 have hv:Z9 l.v:=Hh (by simpa using c1)
 by_cases c2:l.v∈n.own.l
 ·rw[if_pos c2]
  exact VW.one h ⟨by simp,GX,hl.Jj,by unfold PS Jy;simp,hl.slot,UU.nil,fun e=>by cases e⟩
 rw[if_neg c2]
 by_cases c3:Uc n.data n.Xq l.v≠0
 ·rw[if_pos c3];exact VW.same h
 rw[if_neg c3]
 have hd:=nk (by simpa using c3)
 refine⟨{ h with ZQ:=?_,data:=?_ },(fun x hx=>by cases hx),by simp,by simp⟩
 ·intro p hp
  obtain rfl:=Option.some.inj hp
  exact⟨⟨.inl hv.2.1,h.own.Jk.ins hv⟩,hl.Jj,hv⟩
 ·show (n.data++Y0 (Sw l.v)).length≤100000
  rw[List.length_append,ti];exact hd
theorem np {C:List Cm} {i:Nat} {n:Nd} {x:Cm} (h:Qh C i n) (hx:Y9 n.known (n.log.length:Int)=some x):Qh C i (UQ n x)∧(VO n x).length+(UQ n x).waiting.length≤n.waiting.length:=by
 refine⟨{ h with log:=?_,queue:=?_ },?_⟩
 ·intro j hj
  have hj':j<(n.log++[x]).length:=hj
  show (Y9 n.known (j:Int)).isSome=true
  rw[List.length_append,List.length_singleton]at hj'
  by_cases e:j<n.log.length
  ·exact h.log j e
  ·have:j=n.log.length:=by omega
   subst this
   rw[hx];rfl
 ·exact⟨h.queue.1.sublist List.filter_sublist,fun y hy=>h.queue.2 y (List.mem_filter.1 hy).1⟩
 ·show (VO n x).length+(n.waiting.erase x).length≤n.waiting.length
  unfold VO
  by_cases c:x∈n.waiting
  ·rw[if_pos c,List.length_erase_of_mem c]
   have:=List.length_pos_of_mem c
   simp;omega
  ·rw[if_neg c,List.erase_of_not_mem c];simp
theorem gf {C:List Cm} {i:Nat}:∀(k:Nat) (n:Nd),Qh C i n→Qh C i (YH k n).1∧(YH k n).2.length+(YH k n).1.waiting.length≤n.waiting.length:=by
 intro k
 induction k with
 | zero=>intro n h;exact⟨h,by simp[YH]⟩
 | succ k ih=>
  intro n h
  unfold YH
  cases hx:Y9 n.known (n.log.length:Int) with
  | none=>exact⟨h,by simp⟩
  | some x=>
   obtain⟨h1,h2⟩:=np h hx
   obtain⟨h3,h4⟩:=ih _ h1
   refine⟨h3,?_⟩
   simp only[List.length_append]
   omega
theorem bH {C:List Cm} {i:Nat} {n:Nd} (h:Qh C i n) (s:Int) (x:Cm) (hs:0≤s∧s<40):VW C i n (Ui n s x):=by
 have h1:Qh C i (Ud n s x):={ h with
  known:=h.known.ins hs x
  log:=fun j hj=>by
   show (Y9 (ins n.known s x) (j:Int)).isSome=true
   rw[ai]
   split
   ·rfl
   ·exact h.log j hj }
 obtain⟨h2,h3⟩:=gf ((Ud n s x).known.length+1) (Ud n s x) h1
 exact⟨h2,(fun l hl=>by cases hl),by simp[Ui],h3⟩
theorem Kh {β:Type}:∀{l:List (Int × β)} {k:Int} {v:β} {x:Int × β},x∈ins l k v→x.2=v∨x∈l:=by
 intro l
 induction l with
 | nil=>
  intro k v x hx
  left
  have:x=(k,v):=by simpa [ins] using hx
  rw[this]
 | cons y l ih=>
  intro k v x hx
  obtain⟨a,b⟩:=y
  unfold ins at hx
  split at hx
  ·rcases List.mem_cons.1 hx with rfl|hx
   ·exact .inl rfl
   ·exact .inr (by simp[hx])
  ·rcases List.mem_cons.1 hx with rfl|hx
   ·exact .inr (by simp)
   ·rcases ih hx with q|q
    ·exact .inl q
    ·exact .inr (by simp[q])
theorem Ay {C:List Cm} {i:Nat} {n:Nd} {l:YY} (hi:i<5) (h:Qh C i n) (hl:Qf C l):VW C i n (Yr n l):=by
 unfold Yr
 cases hr:n.Zi with
 | none=>exact VW.same h
 | some r=>
  have R:=h.Zi r hr
  have hs:∀r',(NV n r l).Zi=some r'→GM r':=by
   intro r' hr'
   obtain rfl:=Option.some.inj hr'
   refine⟨R.b,R.prom,R.vs,fun x hx=>?_⟩
   rcases Kh hx with q|q
   ·rw[q]
    unfold Th
    refine PT.ins ?_ hl.Jj ()
    cases hk:Y9 r.Jk l.v.slot with
    | none=>exact PT.nil 5
    | some s=>exact R.VU _ (Mj hk)
   ·exact R.VU x q
  have hv:Qh C i (NV n r l):={ h with Zi:=hs }
  simp only
  split
  ·split
   ·refine⟨{ h with Zi:=fun r' hr'=>?_ },(fun x hx=>by cases hx),by simp,by simp[yR]⟩
    obtain rfl:=Option.some.inj hr'
    refine⟨R.b,R.prom.ins hl.Jj l.vs,fun x hx=>?_,R.VU⟩
    rcases Kh hx with q|q
    ·rw[q];exact hl.vs
    ·exact R.vs x q
   ·exact VW.same h
  ·split
   ·exact VW.same h
   ·split
    ·have:=bH hv l.v.slot l.v.cm hl.slot
     exact⟨this.nd,this.ls,this.few,this.ts⟩
    ·exact⟨hv,(fun x hx=>by cases hx),by simp,by simp[NV]⟩
theorem vx {C:List Cm} {i:Nat} {n:Nd} {x:Cm} (h:Qh C i n) (hx:x∈C):Qh C i (add n x):=by
 unfold add
 split
 ·exact h
 ·rename_i q
  refine { h with queue:=⟨?_,fun y hy=>?_⟩ }
  ·show (n.queue++[x]).Nodup
   rw[List.nodup_append]
   refine⟨h.queue.1,by simp,fun a ha b hb e=>?_⟩
   have:b=x:=by simpa using hb
   exact q (.inl (by rw[←this,←e];exact ha))
  ·have hy:y∈n.queue++[x]:=hy
   rcases List.mem_append.1 hy with hy|hy
   ·exact h.queue.2 y hy
   ·have:y=x:=by simpa using hy
    rw[this];exact hx
theorem bI {C:List Cm} {i:Nat} {n:Nd} {l:YY} (h:Qh C i n) (hl:Qf C l):Qh C i (notes n l):=by
 unfold notes
 split
 ·exact { h with heard:=hl.b }
 ·exact h
theorem tp {C:List Cm} {i:Nat} {n:Nd} {l:YY} (hi:i<5) (h:Qh C i n) (hl:Qf C l):VW C i n (UR n l):=by
 have GX:0≤(n.me:Int)∧(n.me:Int)<5:=by rw[h.me];omega
 have hn:=bI h hl
 have hw:(notes n l).waiting=n.waiting:=by unfold notes;split<;>rfl
 unfold UR
 split
 ·next y _=>
  refine⟨hn,fun x hx=>?_,by simp,by simp[hw]⟩
  have:x=⟨6,n.me,l.Jj,Jy,Tf l.v.slot Jy y,[]⟩:=by simpa using hx
  rw[this]
  exact⟨by simp,GX,hl.Jj,by unfold PS Jy;simp,hl.slot,UU.nil,fun e=>by cases e⟩
 ·exact⟨hn,(fun x hx=>by cases hx),by simp,by simp[hw]⟩
theorem Ds {C:List Cm} {i:Nat} {n:Nd} {l:YY} (hi:i<5) (h:Qh C i n) (hl:Qf C l):VW C i n (handle n l):=by
 have hw:(notes n l).waiting=n.waiting:=by unfold notes;split<;>rfl
 unfold handle
 split
 ·exact Ax hi h hl
 split
 ·exact Ay hi h hl
 split
 ·exact tj hi h hl
 split
 ·rename_i e
  refine⟨vx h (hl.cmd e),(fun x hx=>by cases hx),by simp,?_⟩
  have:(add n l.v.cm).waiting=n.waiting:=by unfold add;split<;>rfl
  simp[this]
 split
 ·exact tp hi h hl
 split
 ·exact bH h _ _ hl.slot
 ·exact⟨bI h hl,(fun x hx=>by cases hx),by simp,by simp[hw]⟩
theorem Qh.inbox {C:List Cm} {i:Nat} {n:Nd} (h:Qh C i n) (k:List YY):Qh C i { n with inbox:=k }:={ h with }
theorem bJ {C:List Cm} {i:Nat} (hi:i<5):∀(k:List YY) (n:Nd),Qh C i n→(∀l∈k,Qf C l) →
  Qh C i (drain n k).n∧(∀l∈(drain n k).ls,Qf C l)∧(∀l∈(drain n k).n.inbox,Qf C l)∧(drain n k).ls.length+(drain n k).n.inbox.length≤k.length∧(drain n k).ts.length+(drain n k).n.waiting.length≤n.waiting.length:=by
 intro k
 induction k with
 | nil=>
  intro n h _
  unfold drain
  exact⟨h.inbox [],(fun x hx=>by cases hx),(fun x hx=>by cases hx),by simp,by simp⟩
 | cons l k ih=>
  intro n h hk
  unfold drain
  split
  ·exact⟨h.inbox _,(fun x hx=>by cases hx),hk,by simp,by simp⟩
  ·have o:=Ds hi (h.inbox k) (hk l (by simp))
   obtain⟨h1,h2,h3,h4,h5⟩:=ih _ o.nd (fun x hx=>hk x (by simp[hx]))
   have ots:=o.ts
   have of:=o.few
   refine⟨h1,fun x hx=>?_,h3,?_,?_⟩
   ·rcases List.mem_append.1 hx with hx|hx
    ·exact o.ls x hx
    ·exact h2 x hx
   ·simp only[List.length_append,List.length_cons];omega
   ·simp only[List.length_append]
    have:({ n with inbox:=k }:Nd).waiting=n.waiting:=rfl
    rw[this]at ots
    omega
theorem Sp:∀{l C:List Cm},l.Nodup→(∀x∈l,x∈C)→l.length≤C.length:=by
 intro l
 induction l with
 | nil=>intro C _ _;simp
 | cons x l ih=>
  intro C hn hs
  rw[List.nodup_cons]at hn
  have hx:=hs x (by simp)
  have h1:=ih (C:=C.erase x) hn.2 (fun y hy=>by
   have Yq:y≠x:=fun e=>hn.1 (by rw[←e];exact hy)
   exact (List.mem_erase_of_ne Yq).2 (hs y (by simp[hy])))
  rw[List.length_erase_of_mem hx]at h1
  have:=List.length_pos_of_mem hx
  simp only[List.length_cons]
  omega
theorem Qh.hand {C:List Cm} {i:Nat} {n:Nd} {l:YY} (h:Qh C i n) (hl:Qf C l) (hC:C.length≤100000) (hw:n.waiting.length≤100000) {f t:Nat} (hf:f≤100000000000) (ht:t≤1000000):Ao n l f t:=by
 have Ii:=h.Aw
 have gN:=h.known.len (m:=40)
 have hq:n.queue.length≤C.length:=Sp h.queue.1 h.queue.2
 refine⟨hl.kind,by omega,by have:=h.own.Jk.len;omega,by have:=h.data;omega,by omega,by omega,by omega,by omega,by omega,fun r s hr=>?_⟩
 cases hk:Y9 r.Jk s with
 | none=>simp
 | some x=>
  have:=(h.Zi r hr).VU _ (Mj hk)
  have:x.length≤5:=this.len (m:=5)
  simp only[Option.getD_some]
  omega
theorem Qh.dut {C:List Cm} {i:Nat} {n:Nd} (h:Qh C i n) (hC:C.length≤100000) {f:Nat} (hf:f≤100000000000):nc n f:=by
 have Ii:=h.Aw
 have hq:n.queue.length≤C.length:=Sp h.queue.1 h.queue.2
 refine⟨by omega,by have:=h.own.Jk.len;omega,by have:=h.data;omega,fun r hr=>?_,by omega,by omega,h.Xh⟩
 have R:=h.Zi r hr
 have hp:r.prom.length≤5:=R.prom.len (m:=5)
 refine⟨fun x hx=>by have:=(R.vs x hx).len;omega,fun x hx v hv=>?_,by omega⟩
 have:=((R.vs x hx).1 v hv).1.2
 omega
theorem nq {C:List Cm} {i:Nat} (hi:i<5) (hC:C.length≤100000):∀(k:List YY) (n:Nd),Qh C i n→(∀l∈k,Qf C l)→n.waiting.length≤100000→∀f t,f+k.length≤100000000000→t+n.waiting.length≤1000000→So n k f t:=by
 intro k
 induction k with
 | nil=>intro n _ _ _ f t _ _;exact trivial
 | cons l k ih=>
  intro n h hk hw f t hf ht
  simp only[List.length_cons]at hf
  unfold So
  by_cases hp:n.ZQ.isSome=true
  ·exact .inl hp
  ·have o:=Ds hi (h.inbox k) (hk l (by simp))
   have ots:=o.ts
   have of:=o.few
   have:({ n with inbox:=k }:Nd).waiting=n.waiting:=rfl
   rw[this]at ots
   exact .inr ⟨(h.inbox k).hand (hk l (by simp)) hC hw (by omega) (by omega),ih _ o.nd (fun x hx=>hk x (by simp[hx])) (by omega) _ _ (by omega) (by omega)⟩
theorem nr {C:List Cm} {i:Nat} {n:Nd} (hi:i<5) (hC:C.length≤100000) (h:Qh C i n) (hk:∀l∈n.inbox,Qf C l) (hw:n.waiting.length≤100000) {f t:Nat} (hf:f+n.inbox.length≤100000000000) (ht:t+n.waiting.length≤1000000):Ap n f t:=by
 obtain⟨h1,h2,h3,h4,h5⟩:=bJ hi n.inbox n h hk
 exact⟨by have:=h.data;omega,by omega,fun _=>nq hi hC n.inbox n h hk hw f t hf ht,fun _ _=>h1.dut hC (by omega)⟩
theorem tq {n:Nd} {r:Qd} {x:Cm} (R:GM r):GM (Vn n r x):=by
 unfold Vn
 split
 ·exact⟨R.b,R.prom,R.vs,R.VU⟩
 ·exact R
theorem gg {n:Nd}:∀(l:List Cm) (r:Qd),GM r→GM (Jz n r l):=by
 intro l
 induction l with
 | nil=>intro r R;exact R
 | cons x l ih=>intro r R;exact ih _ (tq R)
theorem tC {n:Nd} {r:Qd} (R:GM r):GM (LW n r):=by
 unfold LW
 refine gg _ _ ?_
 split
 ·exact R
 ·exact⟨R.b,R.prom,R.vs,R.VU⟩
theorem GN:PS Jy:=by unfold PS Jy;simp
theorem zD {C:List Cm} {i:Nat} {n:Nd} {r:Qd} (hi:i<5) (h:Qh C i n) (R:GM r):Qh C i (JU n r).n∧(∀l∈(JU n r).ls,Qf C l)∧(JU n r).n.inbox=n.inbox∧(JU n r).n.waiting=n.waiting:=by
 have GX:0≤(n.me:Int)∧(n.me:Int)<5:=by rw[h.me];omega
 have v0:0≤Tm.slot∧Tm.slot<40:=by decide
 unfold JU
 split
 ·split
  ·exact⟨h,(fun x hx=>by cases hx),rfl,rfl⟩
  ·rename_i hd
   have hd:=Dr (by simpa using hd)
   refine⟨{ h with ZQ:=?_,data:=?_ },(fun x hx=>by cases hx),rfl,rfl⟩
   ·intro p hp
    obtain rfl:=Option.some.inj hp
    by_cases c:Yu n.own.p n.own.l r.b=0
    ·simp only[c,if_true]
     exact⟨⟨.inl (OH c),h.own.Jk⟩,h.own.Jk⟩
    ·simp only[c,if_false]
     exact⟨Hg.zero,UU.nil⟩
   ·show (n.data++Y0 (Qo r.b)).length≤100000
    rw[List.length_append,bF];exact hd
 ·split
  ·refine⟨h,fun l hl=>?_,rfl,rfl⟩
   unfold Rj at hl
   simp only[List.mem_flatMap,List.mem_range]at hl
   obtain⟨m,hm,hl⟩:=hl
   split at hl
   ·have:l=⟨0,n.me,m,r.b,Tm,[]⟩:=by simpa using hl
    rw[this]
    exact⟨by simp,GX,by simp only;omega,R.b,v0,UU.nil,fun e=>by cases e⟩
   ·cases hl
  ·refine⟨{ h with Zi:=fun r' hr'=>?_ },fun l hl=>?_,rfl,rfl⟩
   ·obtain rfl:=Option.some.inj hr'
    exact tC R
   ·unfold LV at hl
    simp only[List.mem_flatMap,List.mem_range]at hl
    obtain⟨s,hs,hl⟩:=hl
    unfold WJ at hl
    split at hl
    ·split at hl
     ·simp only[List.mem_flatMap,List.mem_range]at hl
      obtain⟨m,hm,hl⟩:=hl
      unfold PD at hl
      split at hl
      ·next x _ _ _=>
       have:l=⟨2,n.me,m,Jy,Tf s (LW n r).b x,[]⟩:=by simpa using hl
       rw[this]
       exact⟨by simp,GX,by simp only;omega,GN,by simp only[Tf];omega,UU.nil,fun e=>by cases e⟩
      ·cases hl
     ·cases hl
    ·cases hl
theorem tD {C:List Cm} {i:Nat} {n:Nd} (h:Qh C i n):Qh C i (still n)∧(still n).inbox=n.inbox∧(still n).waiting=n.waiting:=by
 unfold still
 split
 ·split
  ·exact⟨{ h with Zi:=fun r hr=>by cases hr },rfl,rfl⟩
  ·exact⟨h,rfl,rfl⟩
 ·exact⟨h,rfl,rfl⟩
theorem tE {C:List Cm} {i:Nat} {n:Nd} (hi:i<5) (h:Qh C i n):Qh C i (Yl n).n∧(∀l∈(Yl n).ls,Qf C l)∧(Yl n).n.inbox=n.inbox∧(Yl n).n.waiting=n.waiting:=by
 have GX:0≤(n.me:Int)∧(n.me:Int)<5:=by rw[h.me];omega
 unfold Yl
 split
 ·next r hr=>exact zD hi h (h.Zi r hr)
 ·split
  ·rename_i q
   refine⟨h,fun l hl=>?_,rfl,rfl⟩
   unfold Vo at hl
   simp only[List.mem_map]at hl
   obtain⟨x,hx,rfl⟩:=hl
   have hb:ZS n.own.p:=by
    rcases h.own.bal with e|e
    ·exact e
    ·have:=q.1;omega
   exact⟨by simp,GX,by simp only;have:=hb.2;omega,GN,by simp[Tf],UU.nil,fun _=>h.queue.2 x hx⟩
  ·exact⟨h,(fun x hx=>by cases hx),rfl,rfl⟩
theorem tF {C:List Cm} {i:Nat} {n:Nd} (h:Qh C i n):PS (Uj n):=by
 unfold Uj;split
 ·exact h.heard
 ·exact h.own.nj
theorem zE {C:List Cm} {i:Nat} {n:Nd} (hi:i<5) (hC:C.length≤100000) (h:Qh C i n):Qh C i (Uf n).n∧(∀l∈(Uf n).ls,Qf C l)∧(Uf n).n.inbox=n.inbox∧(Uf n).n.waiting=n.waiting∧(Uf n).ls.length≤100201∧(Uf n).ts=[]:=by
 obtain⟨s1,s2,s3⟩:=tD h
 obtain⟨d1,d2,d3,d4⟩:=tE hi s1
 have hq:(still n).queue.length≤C.length:=Sp s1.queue.1 s1.queue.2
 have hls:=Di (still n)
 unfold Uf
 split
 ·exact⟨d1,d2,by rw[d3,s2],by rw[d4,s3],by omega,(Ro _).2.2.2.2.2⟩
 ·have tt:0≤((Yl (still n)).n.Xh+1)%5∧((Yl (still n)).n.Xh+1)%5<5:=by omega
  have t1:Qh C i (JR (Yl (still n)).n):={ d1 with Xh:=tt }
  have GX:0≤((JR (Yl (still n)).n).me:Int)∧((JR (Yl (still n)).n).me:Int)<5:=by rw[t1.me];omega
  refine⟨t1,fun l hl=>?_,by show (Yl (still n)).n.inbox=_;rw[d3,s2],by show (Yl (still n)).n.waiting=_;rw[d4,s3],?_,rfl⟩
  ·rcases List.mem_append.1 hl with hl|hl
   ·exact d2 l hl
   ·unfold VP at hl
    split at hl
    ·rename_i q
     have:l=⟨5,(JR (Yl (still n)).n).me,(JR (Yl (still n)).n).Xh,Uj (JR (Yl (still n)).n),Tf (JR (Yl (still n)).n).log.length Jy oF,[]⟩:=by simpa using hl
     rw[this]
     exact⟨by simp,GX,t1.Xh,tF t1,by simp only[Tf];have:=q.2;omega,UU.nil,fun e=>by cases e⟩
    ·cases hl
  ·have:(VP (JR (Yl (still n)).n)).length≤1:=by unfold VP;split<;>simp
   simp only[List.length_append]
   omega
theorem nt {C:List Cm} {i:Nat} {n:Nd} (h:Qh C i n):Qh C i (synced n):=by
 refine { h with ZQ:=(fun p hp=>by cases hp),data:=?_ }
 show (if Y1 n.data n.Xq then n.data else []).length≤100000
 split
 ·exact h.data
 ·simp
theorem nu {C:List Cm} {i:Nat} {n:Nd} {p:DS} (hi:i<5) (h:Qh C i n) (P:ZeG p):Qh C i (finish n p).n∧(∀l∈(finish n p).ls,Qf C l)∧(finish n p).n.inbox=n.inbox∧(finish n p).n.waiting=n.waiting∧(finish n p).ls.length≤1∧(finish n p).ts=[]:=by
 have GX:0≤(n.me:Int)∧(n.me:Int)<5:=by rw[h.me];omega
 have v0:0≤Tm.slot∧Tm.slot<40:=by decide
 cases p with
 | Ig a to b vs=>
  obtain⟨p1,p2,p3,p4⟩:=P
  refine⟨{ h with own:=p1 },fun l hl=>?_,rfl,rfl,by simp[finish],rfl⟩
  have:l=⟨1,n.me,to,b,Tm,vs⟩:=by simpa [finish] using hl
  rw[this]
  exact⟨by simp,GX,p2,p3,v0,p4,fun e=>by cases e⟩
 | Kx a to v=>
  obtain⟨p1,p2,p3⟩:=P
  refine⟨{ h with own:=p1 },fun l hl=>?_,rfl,rfl,by simp[finish],rfl⟩
  have:l=⟨3,n.me,to,Jy,v,[]⟩:=by simpa [finish] using hl
  rw[this]
  exact⟨by simp,GX,p2,GN,by have:=p3.1;simp only;omega,UU.nil,fun e=>by cases e⟩
 | own a vs cur=>
  obtain⟨p1,p2⟩:=P
  refine⟨{ h with own:=p1,Zi:=fun r hr=>?_ },(fun x hx=>by cases hx),rfl,rfl,by simp[finish],rfl⟩
  have hr:(if cur=true then n.Zi.map (fun r=>{ r with prom:=ins r.prom n.me vs }) else n.Zi)=some r:=hr
  split at hr
  ·rw[Option.map_eq_some_iff]at hr
   obtain⟨r0,h0,rfl⟩:=hr
   have R:=h.Zi r0 h0
   refine⟨R.b,R.prom.ins GX vs,fun x hx=>?_,R.VU⟩
   rcases Kh hx with q|q
   ·rw[q];exact p2
   ·exact R.vs x q
  ·exact h.Zi r hr
theorem zF {C:List Cm} {i:Nat} {n:Nd} (hi:i<5) (hC:C.length≤100000) (h:Qh C i n) (hk:∀l∈n.inbox,Qf C l) :
  Qh C i (step n).n∧(∀l∈(step n).ls,Qf C l)∧(∀l∈(step n).n.inbox,Qf C l)∧(step n).ls.length+(step n).n.inbox.length≤n.inbox.length+100201∧(step n).ts.length+(step n).n.waiting.length≤n.waiting.length:=by
 unfold step
 split
 ·cases hp:n.ZQ with
  | some p=>
   obtain⟨f1,f2,f3,f4,f5,f6⟩:=nu hi (nt h) (h.ZQ p hp)
   refine⟨f1,f2,by simp only;rw[f3];exact hk,?_,?_⟩
   ·simp only;rw[f3];show _+n.inbox.length≤_;omega
   ·simp only;rw[f4,f6];show 0+n.waiting.length≤_;omega
  | none=>
   obtain⟨d1,d2,d3,d4,d5⟩:=bJ hi n.inbox n h hk
   simp only
   split
   ·exact⟨d1,d2,d3,by omega,d5⟩
   ·obtain⟨e1,e2,e3,e4,e5,e6⟩:=zE hi hC d1
    refine⟨e1,fun l hl=>?_,by simp only;rw[e3];exact d3,?_,?_⟩
    ·rcases List.mem_append.1 hl with hl|hl
     ·exact d2 l hl
     ·exact e2 l hl
    ·simp only[List.length_append];rw[e3];omega
    ·simp only;rw[e4,e6,List.append_nil];exact d5
 ·exact⟨h,(fun x hx=>by cases hx),hk,by simp,by simp⟩
theorem zH {a a':WT} {b:List Nat} (h:Je a b=some a') (ha:Hg a):Hg a':=by
 unfold Je at h
 split at h
 ·split at h
  ·rename_i q
   cases h
   exact⟨.inl (OH q),ha.Jk⟩
  ·cases h
 ·split at h
  ·split at h
   ·cases h
   ·split at h
    ·rename_i q
     cases h
     have hv:=Hh q
     exact⟨.inl hv.2.1,ha.Jk.ins hv⟩
    ·cases h
  ·cases h
theorem tH (l:List Nat):∀(f:Nat) (a:WT) (k:Nat),Hg a→Hg (LX l f a k).1:=by
 intro f
 induction f with
 | zero=>intro a k h;exact h
 | succ f ih=>
  intro a k h
  unfold LX
  cases hs:Xy l a k with
  | none=>exact h
  | some x=>
   refine ih _ _ ?_
   unfold Xy at hs
   split at hs
   ·rw[Option.map_eq_some_iff]at hs
    obtain⟨y,hy,rfl⟩:=hs
    exact zH hy h
   ·cases hs
theorem nw (l:List Nat):Hg (TU l).1:=tH l _ _ _ Hg.zero
theorem Ms {C:List Cm} {i:Nat} {up:Bool} {data:List Nat} {Xq:Int} {own:WT} (hd:data.length≤100000) (ho:Hg own):Qh C i (blank i up data Xq own):=
 ⟨rfl,by unfold blank;simp,ho,GN,(fun p hp=>by cases hp),(fun r hr=>by cases hr),PT.nil 40,(fun j hj=>by cases hj),⟨by simp[blank],(fun x hx=>by cases hx)⟩,hd⟩
theorem gh {C:List Cm} {i:Nat} {n:Nd} (h:Qh C i n) (Zd:Int):Qh C i (crashed i n Zd)∧((crashed i n Zd).inbox=[]∧(crashed i n Zd).waiting=[]∨crashed i n Zd=n):=by
 unfold crashed
 split
 ·split
  ·refine⟨Ms ?_ Hg.zero,.inl ⟨rfl,rfl⟩⟩
   have:=h.data
   rw[List.length_take];omega
  ·exact⟨Ms (by simp) Hg.zero,.inl ⟨rfl,rfl⟩⟩
 ·exact⟨h,.inr rfl⟩
theorem gi {C:List Cm} {i:Nat} {n:Nd} (h:Qh C i n):Qh C i (started i n)∧((started i n).inbox=[]∧(started i n).waiting=[]∨started i n=n):=by
 unfold started
 split
 ·exact⟨h,.inr rfl⟩
 ·refine⟨Ms ?_ ?_,.inl ⟨rfl,rfl⟩⟩
  ·unfold Aa
   have:=h.data
   split
   ·rw[List.length_take];omega
   ·simp
  ·split
   ·exact nw _
   ·exact Hg.zero
theorem zI {C:List Cm} {i:Nat} {n:Nd} (h:Qh C i n):Qh C i (lead n)∧(lead n).inbox=n.inbox∧(lead n).waiting=n.waiting:=by
 unfold lead
 split
 ·exact⟨h,rfl,rfl⟩
 ·rename_i q
  refine⟨{ h with ZQ:=?_,Zi:=fun r hr=>?_ },rfl,rfl⟩
  ·intro p hp
   have hp:Xb n.ZQ=some p:=hp
   cases hn:n.ZQ with
   | none=>rw[hn]at hp;cases hp
   | some p0=>
    have P:=h.ZQ p0 hn
    rw[hn]at hp
    cases p0 with
    | Ig a to b vs=>cases hp;exact P
    | Kx a to v=>cases hp;exact P
    | own a vs cur=>cases hp;exact P
  ·obtain rfl:=Option.some.inj hr
   refine⟨⟨?_,?_⟩,PT.nil 5,(fun x hx=>by cases hx),(fun x hx=>by cases hx)⟩
   ·have h1:=h.own.nj.1
    show 0≤(J4 n).r
    unfold J4
    simp only
    split<;>omega
   ·have:¬65536<(J4 n).r:=fun e=>q (.inr e)
    show (J4 n).r≤65536
    omega
def Rp (f:Nat→Nat):Nat:=f 0+f 1+f 2+f 3+f 4
theorem nx (f:Nat→Nat) (i a:Nat) (hi:i<5):Rp (fun j=>if j=i then a else f j)+f i=Rp f+a:=by
 unfold Rp
 match i,hi with
 | 0,_=>simp;omega
 | 1,_=>simp;omega
 | 2,_=>simp;omega
 | 3,_=>simp;omega
 | 4,_=>simp;omega
theorem bK (f:Nat→Nat) (i:Nat) (hi:i<5):f i≤Rp f:=by
 unfold Rp
 match i,hi with
 | 0,_=>omega
 | 1,_=>omega
 | 2,_=>omega
 | 3,_=>omega
 | 4,_=>omega
structure WI (C:List Cm) (k:Nat) (w:Wd):Prop where
 nd:∀i,i<5→Qh C i (w.nodes i)
 Az:∀i,i<5→∀l∈(w.nodes i).inbox,Qf C l
 Hj:∀l∈w.Zl,Qf C l
 room:w.Zl.length+Rp (fun i=>(w.nodes i).inbox.length)≤k*100300
 wait:w.told.length+Rp (fun i=>(w.nodes i).waiting.length)≤k
 bad:∀i,0≤w.bad i∧w.bad i≤k
theorem PU (w:Wd) (i:Nat) (n:Nd) (g:Nd→Nat) (hi:i<5):Rp (fun j=>g (if j=i then n else w.nodes j))+g (w.nodes i)=Rp (fun j=>g (w.nodes j))+g n:=by
 have:=nx (fun j=>g (w.nodes j)) i (g n) hi
 have e:(fun j=>g (if j=i then n else w.nodes j))=(fun j=>if j=i then g n else g (w.nodes j)):=by
  funext j;split<;>rfl
 rw[e];exact this
theorem WI.out {C:List Cm} {k:Nat} {w:Wd} (h:WI C k w) {i:Nat} (hi:i<5) {o:Out} (h1:Qh C i o.n) (h2:∀l∈o.ls,Qf C l) (h3:∀l∈o.n.inbox,Qf C l) (h4:o.ls.length+o.n.inbox.length≤(w.nodes i).inbox.length+100300) (h5:o.ts.length+o.n.waiting.length≤(w.nodes i).waiting.length+1):WI C (k+1) (w.out i o):=by
 unfold Wd.out
 refine⟨fun j hj=>?_,fun j hj l hl=>?_,fun l hl=>?_,?_,?_,fun j=>by have:=h.bad j;simp only;omega⟩
 ·by_cases e:j=i
  ·subst e;simpa using h1
  ·simp only[if_neg e];exact h.nd j hj
 ·by_cases e:j=i
  ·subst e;simp only[if_true]at hl;exact h3 l hl
  ·simp only[if_neg e]at hl;exact h.Az j hj l hl
 ·rcases List.mem_append.1 hl with hl|hl
  ·exact h.Hj l hl
  ·exact h2 l hl
 ·have:=PU w i o.n (fun n=>n.inbox.length) hi
  have hr:=h.room
  simp only[List.length_append]at this ⊢
  omega
 ·have:=PU w i o.n (fun n=>n.waiting.length) hi
  have hr:=h.wait
  simp only[List.length_append]at this ⊢
  omega
theorem Ws (w:Wd) (i:Nat) (n:Nd):w.set i n=w.out i ⟨n,[],[]⟩:=by
 unfold Wd.set Wd.out
 simp
theorem WI.more {C:List Cm} {k:Nat} {w:Wd} (h:WI C k w):WI C (k+1) w:=
 ⟨h.nd,h.Az,h.Hj,Nat.le_trans h.room (Nat.mul_le_mul_right _ (Nat.le_succ k)),Nat.le_trans h.wait (Nat.le_succ k),fun i=>⟨(h.bad i).1,by have:=(h.bad i).2;omega⟩⟩
theorem WI.ok {C:List Cm} {k:Nat} {w:Wd} (h:WI C k w) (hC:C.length≤100000) (hk:k≤100000):WOk w:=by
 have hr:=h.room
 have hw:=h.wait
 have SX:∀i,i<5→(w.nodes i).inbox.length+w.Zl.length≤10030000000:=fun i hi=>by
  have:(w.nodes i).inbox.length≤_:=bK (fun i=>(w.nodes i).inbox.length) i hi
  omega
 have Mu:∀i,i<5→(w.nodes i).waiting.length+w.told.length≤100000:=fun i hi=>by
  have:(w.nodes i).waiting.length≤_:=bK (fun i=>(w.nodes i).waiting.length) i hi
  omega
 refine⟨fun i hi=>(h.nd i hi).me,fun i hi=>nr hi hC (h.nd i hi) (h.Az i hi) (by have:=Mu i hi;omega) (by have:=SX i hi;omega) (by have:=Mu i hi;omega),fun i hi=>?_,fun i hi=>?_,fun i hi=>?_,fun i hi=>?_,fun i hi=>?_,?_,fun i hi=>?_,fun i hi=>?_,fun i hi r hr=>?_,fun l hl=>(h.Hj l hl).to,?_⟩
 ·have:=Sp (h.nd i hi).queue.1 (h.nd i hi).queue.2;omega
 ·have:=(h.nd i hi).Aw;omega
 ·have:=Mu i hi;omega
 ·have:=SX i hi;omega
 ·have:=(h.nd i hi).data;omega
 ·have:=Mu 0 (by omega);omega
 ·have:=h.bad i;omega
 ·have h1:=(h.nd i hi).own.nj
  have h2:=(h.nd i hi).heard
  unfold PS at h1 h2
  omega
 ·have h1:=((h.nd i hi).Zi r hr).b
  unfold PS at h1
  omega
 ·have:=SX 0 (by omega);omega
set_option maxHeartbeats 8000000 in
theorem zK (T:World) (h:Hp) (o:Ow) (wb:Nat) (Z4:Nat→Nat) (Yy:WA) (w:Wd) (a:Ac) (dv:Value) (d:Q3 o h) (A:X2 o h wb Z4 Yy w) (ok:WOk w) (hk:1≤a.kind∧a.kind≤9) (hi:a.node<5) (iv:VT o h dv a.data) (om:a.data.length≤140737488355328) (tb:DT o h) :
  Zc Tryz.prog T 34 #[Zn wb,.agg (WQ a.kind a.node a.at' a.Zd dv).toArray] h fun v' h'=>∃o' Xl Znz,Kp WO o h o' h'∧X2 o' h' wb Znz Xl (act w a):=by
 obtain⟨pd,cd,hdv,Qa⟩:=iv.1.fits
 have ER:Td dv:=by rw[hdv];exact Qa
 subst hdv
 refine Zc.Zh (args:=[_,_]) Tryz.func34 rfl rfl rfl rfl ?_
 unfold Zn WQ
 obtain⟨h1,Yv⟩:=Zy (h.push (.cells (WQ a.kind a.node a.at' a.Zd (.slice pd a.data.length cd)).toArray 36):Hp)
 have k1:Kp Qe o h o h1:=by rw[Yv];exact ZW d _
 have x3:ZK o h1 h.size (.cells (WQ a.kind a.node a.at' a.Zd (.slice pd a.data.length cd)).toArray 36):=⟨d _ (Nat.le_refl _),by rw[Yv];exact Zb⟩
 have e0:=Yv.symm
 unfold WQ at e0
 have A1:=A.still k1
 have tb1:=tb.Zd k1
 have R1:=YQ A1.wd.ZD.2
 have Rn:=R1.nodes
 obtain⟨b,off,c,hn,hc5,hb,PO⟩:=UT A1.wd
 rw[hn]at Rn
 have GG:=Za A1.wd.ZD.2
 have q0:hc h1 ⟨h.size,0,none⟩=some (.int .i64 a.kind):=Zg x3.2
 have q1:hc h1 ⟨h.size,1,none⟩=some (.int .i64 a.node):=Zg x3.2
 have q2:hc h1 ⟨h.size,2,none⟩=some (.int .i64 a.at'):=Zg x3.2
 have q3:hc h1 ⟨h.size,3,none⟩=some (.int .i64 a.Zd):=Zg x3.2
 have q4:hc h1 ⟨h.size,4,none⟩=some (.slice pd a.data.length cd):=Zg x3.2
 have l3:=Za x3.2
 have ri:=PO a.node hi
 unfold Zn at ri
 have aH:(a.node:Int)<5:=by omega
 obtain⟨na,N1⟩:=A1.nd a.node hi
 have WS:=Za N1.ZD.2
 have sc:=iv.Zd k1
 have Kc:a.kind=1∨a.kind=2∨a.kind=3∨(a.kind=4∨a.kind=5∨a.kind=6)∨a.kind=7∨a.kind=8∨a.kind=9:=by omega
 rcases Kc with e|e|e|e|e|e|e
 ·-- a command
  have ea:act w a=VQ w a.node a.data:=by unfold act;rw[if_pos e]
  rw[ea]
  rw[e]at q0
  have cs:=fZ T h1 o wb Z4 Yy w a.node a.data (.slice pd a.data.length cd) k1.ZU A1 hi (ok.me _ hi) sc ER om tb1 (by have:=ok.queue _ hi;omega) (by have:=ok.log _ hi;omega) (by have:=ok.waiting _ hi;omega) (by have:=ok.told;omega) (ok.bad _ hi)
  unfold Zn at cs
  simp -implicitDefEqProofs only[go_sem,↓reduceIte,e0,q0]
  refine VS.z (h1.size) [11] (.p 0 (.p 1 (.p 2 (.p 3 (.q 4 (.p 5 (.q 6 (.p 7 (.q 8 (.p 9 (.q 10 (.w 11 .nil)))))))))))) mixed (by kernel_rfl) ?_
  simp -implicitDefEqProofs only[go_sem,↓reduceIte,Rn,q1,q4,GG,l3,hb,aH,ri]
  refine cs.use ?_
  rintro v' g ⟨o',Xl,kk,A'⟩
  simp -implicitDefEqProofs only[go_sem,↓reduceIte]
  exact⟨o',Xl,Z4,(Ya k1).trans kk,A'⟩
 ·-- to lead
  have ea:act w a=w.set a.node (lead (w.nodes a.node)):=by unfold act;rw[if_neg (by omega),if_pos e]
  rw[ea]
  rw[e]at q0
  have cs:=sZ T h1 o wb a.node (Z4 a.node) na (w.nodes a.node) k1.ZU N1 (ok.Znx _ hi) (ok.rgn _ hi)
  unfold Zn at cs
  simp -implicitDefEqProofs only[go_sem,↓reduceIte,e0,q0]
  refine VS.z (h1.size) [9] (.p 0 (.p 1 (.p 2 (.p 3 (.q 4 (.p 5 (.q 6 (.p 7 (.q 8 (.w 9 .nil)))))))))) mixed (by kernel_rfl) ?_
  simp -implicitDefEqProofs only[go_sem,↓reduceIte,Rn,q1,GG,l3,hb,aH,ri]
  refine cs.use ?_
  rintro v' g ⟨o',a',kk,N'⟩
  simp -implicitDefEqProofs only[go_sem,↓reduceIte]
  exact⟨o',Yy,Z4,(Ya k1).trans (Ya kk),A1.Xh (kk.mono fun t q=>.inr (.inr (.inr q))) N' (A1.wd.Zd kk fun t q e=>by rw[q]at e;cases e)⟩
 ·-- a step
  have ea:act w a=w.out a.node (step (w.nodes a.node)):=by unfold act;rw[if_neg (by omega),if_neg (by omega),if_pos e]
  rw[ea]
  rw[e]at q0
  have cs:=nf T h1 o wb a.node (Z4 a.node) Z4 na (w.nodes a.node) Yy w.Zl w.bad w.told k1.ZU N1 A1.wd tb1 (ok.step _ hi)
  unfold Zn at cs
  simp -implicitDefEqProofs only[go_sem,↓reduceIte,e0,q0]
  refine VS.z (h1.size) [9] (.p 0 (.p 1 (.p 2 (.p 3 (.q 4 (.p 5 (.q 6 (.p 7 (.q 8 (.w 9 .nil)))))))))) mixed (by kernel_rfl) ?_
  simp -implicitDefEqProofs only[go_sem,↓reduceIte,Rn,q1,GG,l3,hb,aH,ri]
  refine cs.use ?_
  rintro v' g ⟨o',a',Xl,kk,N',W'⟩
  simp -implicitDefEqProofs only[go_sem,↓reduceIte]
  exact⟨o',Xl,Z4,(Ya k1).trans (Ya kk),A1.Xh kk N' W'⟩
 ·-- a letter
  have ea:act w a=pick w a.at' (decide (a.kind≠5)) (decide (a.kind=6)):=by unfold act;rw[if_neg (by omega),if_neg (by omega),if_neg (by omega),if_pos e]
  rw[ea]
  have cs:=ng T h1 o wb Z4 Yy w a.at' (decide (a.kind≠5)) (decide (a.kind=6)) k1.ZU A1 ok.to (by have:=ok.room;omega) (fun j hj=>by have:=ok.inbox j hj;omega)
  unfold Zn at cs
  rcases e with e|e|e
  all_goals
   rw[e]at q0 cs ⊢
   rw[e]at e0
   simp -implicitDefEqProofs only[go_sem,↓reduceIte,e0,q0,q2]
   refine cs.use ?_
   rintro v' g ⟨o',Xl,kk,A'⟩
   simp -implicitDefEqProofs only[go_sem,↓reduceIte]
   exact⟨o',Xl,Z4,(Ya k1).trans kk,A'⟩
 ·-- all th
  have ea:act w a=w.Zl.foldl QV { w with Zl:=[] }:=by unfold act;rw[if_neg (by omega),if_neg (by omega),if_neg (by omega),if_neg (by omega),if_pos e]
  rw[ea]
  rw[e]at q0
  have Yk:=ok.room
  obtain⟨pf,cf,hf,hfc⟩:=Vs A1.wd.Zl
  have Rf:=R1.Zl
  rw[hf]at Rf
  obtain⟨g2,w2,W2,k2⟩:=A1.wd.He (fl':=[]) (v:=.slice none 0 0) (Kp.refl k1.ZU (fun t=>t=.Zl)) ⟨[],rfl,Ys.nil _ _ _ _ _,fun x hx=>by cases hx⟩ (R1.GF (.slice none 0 0) rfl)
  have A2:X2 o g2 wb Z4 { Yy with Zl:=.slice none 0 0 } { w with Zl:=[] }:=A1.sU k2 (by rintro t rfl;rfl) W2
  have L2:Qz o .Zl g2 (.slice pf w.Zl.length cf) w.Zl:=by rw[←hf];exact A1.wd.Zl.Zd k2 (by intro e;cases e)
  have K2:Kp WO o h o g2:=(Ya k1).trans (Ya k2)
  simp -implicitDefEqProofs only[go_sem,↓reduceIte,e0,q0,Rf,GG,w2]
  refine VS.ZV (fun F g=>F 0=.pointer (some ⟨wb,0,none⟩)∧F 118=.slice pf w.Zl.length cf∧F 119=.int .i64 w.Zl.length∧∃(j:Nat) (o':Ow),j≤w.Zl.length∧F 120=.int .i64 j∧Kp WO o h o' g∧X2 o' g wb Z4 { Yy with Zl:=.slice none 0 0 } ((w.Zl.take j).foldl QV { w with Zl:=[] })∧Qz o' .Zl g (.slice pf w.Zl.length cf) w.Zl)
   (fun F _=>w.Zl.length-(vi (F 120)).toNat) rfl ⟨rfl,rfl,rfl,0,o,Nat.zero_le _,rfl,K2,A2,L2⟩ ?_
  rintro F3 g3 ⟨f0,f118,f119,j,o3,hj,f120,K3,A3,L3⟩
  by_cases ZA:j<w.Zl.length
  ·have ZI:(j:Int)<w.Zl.length:=by omega
   obtain⟨v,b3,Zzd,c3,hv,hvc,hb3,zL,iv3⟩:=bE L3 j ZA
   simp only[Value.slice.injEq]at hv
   obtain⟨rfl,_,rfl⟩:=hv
   obtain⟨l,hl⟩:=Zy (w.Zl[j])
   rw[←hl]at zL iv3
   have ic:l∈w.Zl:=by rw[hl];exact List.getElem_mem ZA
   obtain⟨pw,cw,rfl⟩:=iv3.isSlice
   obtain⟨g4,PN⟩:=Zy (g3.push (.cells (YP l (.slice pw l.vs.length cw)).toArray 148):Hp)
   have k4:Kp Qe o3 g3 o3 g4:=by rw[PN];exact ZW K3.ZU _
   have x6:ZK o3 g4 g3.size (.cells (YP l (.slice pw l.vs.length cw)).toArray 148):=⟨K3.ZU _ (Nat.le_refl _),by rw[PN];exact Zb⟩
   have e4:=PN.symm
   have r6:rd g4 ⟨g3.size,0,none⟩ 14=some (YP l (.slice pw l.vs.length cw)):=Zo x6.2 rfl
   obtain⟨wj,hwj⟩:=Zy ((w.Zl.take j).foldl QV { w with Zl:=[] })
   rw[←hwj]at A3
   have YE:(w.Zl.take (j+1)).foldl QV { w with Zl:=[] } = QV wj l:=by
    rw[Ye _ j ZA,←hl,List.foldl_append,←hwj];rfl
   have cc:=GK T g4 o3 wb Z4 _ wj l (.slice pw l.vs.length cw) k4.ZU (A3.still k4) (iv3.Zd k4) (ok.to l ic) (fun i hi=>by
    have h1:=Dp i (w.Zl.take j) { w with Zl:=[] }
    rw[←hwj,List.length_take]at h1
    have h2:=ok.inbox i hi
    have h3:=ok.room
    have h4:(({ w with Zl:=[] }:Wd).nodes i).inbox.length=(w.nodes i).inbox.length:=rfl
    omega)
   unfold Zn YP at cc
   unfold YP at e4 r6 zL
   simp -implicitDefEqProofs only[go_sem,↓reduceIte,f0,f118,f119,f120,ZI,zL,e4,r6]
   refine cc.use ?_
   rintro v' g5 ⟨o5,k5,A5⟩
   simp -implicitDefEqProofs only[go_sem,↓reduceIte,f120]
   unfold Y6
   refine⟨⟨f0,f118,f119,j+1,o5,ZA,rfl,(K3.trans (Ya k4)).trans (Ya k5),by rw[YE];exact A5,(L3.Zd k4 (fun q=>q.elim)).Zd k5 (by rintro⟨_,e⟩;cases e)⟩,?_⟩
   simp only[vi,Zj,↓reduceIte,f120];omega
  ·have YF:¬(j:Int)<w.Zl.length:=by omega
   obtain rfl:j=w.Zl.length:=by omega
   rw[List.take_of_length_le (Nat.le_refl _)]at A3
   simp -implicitDefEqProofs only[go_sem,↓reduceIte,f119,f120,YF]
   exact⟨o3,_,Z4,K3,A3⟩
 ·-- a ZcJ
  have ea:act w a=w.set a.node (crashed a.node (w.nodes a.node) a.Zd):=by unfold act;rw[if_neg (by omega),if_neg (by omega),if_neg (by omega),if_neg (by omega),if_neg (by omega),if_pos e]
  rw[ea]
  rw[e]at q0
  obtain⟨n,Iv⟩:=Zy (w.nodes a.node)
  have zM:=ok.data _ hi
  rw[←Iv]at N1 zM
  have P1:=Zx N1.ZD.2 N1.pt.store.len
  have P1u:=P1.up
  simp -implicitDefEqProofs only[go_sem,↓reduceIte,e0,q0]
  refine VS.mono (N:=fun F' g'=>Zf h1.size h1 g'∧F' 0=.pointer (some ⟨wb,0,none⟩)∧F' 3=.pointer (some ⟨h.size,0,none⟩)∧F' 7=.pointer (some ⟨Z4 a.node,0,none⟩)) ?_ ?_ (fun _ _ _ h=>h) (fun _ _ h=>h)
  ·refine VS.z (h1.size) [] (.p 0 (.p 1 (.p 2 (.q 3 (.p 4 (.q 5 (.p 6 (.q 7 (.p 8 .nil))))))))) mixed (by kernel_rfl) ?_
   simp -implicitDefEqProofs only[go_sem,↓reduceIte,Rn,q1,GG,l3,hb,aH,ri]
   try exact Zf.refl _ _
  rintro F2 g2 ⟨b2,f0,f3,f7⟩
  have Sx:=ZB k1.ZU b2
  have A2:=A1.still Sx
  have N2:=N1.still Sx
  have K2:=k1.trans Sx
  have y3:=x3.Zd Sx
  have P2:=Zx N2.ZD.2 N2.pt.store.len
  have bD:=P2.up
  have JA:=Za N2.ZD.2
  clear P1 P1u
  cases hu:n.up with
  | false=>
   rw[hu]at bD
   have e1:crashed a.node (w.nodes a.node) a.Zd=w.nodes a.node:=by unfold crashed;rw[←Iv,if_neg (by rw[hu];simp)]
   rw[e1,TY]
   simp -implicitDefEqProofs only[go_sem,↓reduceIte,f7,bD]
   exact⟨o,Yy,Z4,Ya K2,A2⟩
  | true=>
   rw[hu]at bD
   obtain⟨pt,ct,ie⟩:=N2.pt.data.1.isSlice
   have ie:na.data=.slice pt n.data.length ct:=ie
   have P2t:=P2.tape
   rw[ie]at P2t
   have ND:=N2.pt.data
   rw[ie]at ND
   obtain⟨L,Z,E,hLZ⟩:∃L Z E,TH n.data n.Xq a.Zd=(L,Z,E):=⟨_,_,_,rfl⟩
   have q3:hc g2 ⟨h.size,3,none⟩=some (.int .i64 a.Zd):=Zg y3.2
   have l3:=Za y3.2
   have call:∀G,Zf g2.size g2 G→Zc Tryz.prog T 60 #[.agg #[.slice pt n.data.length ct,.int .i64 n.Xq],.int .i64 a.Zd] G fun v' h'=>Zf G.size G h'∧aD G.size h' v' (L,Z,E):=fun G hG=>by
    rw[←hLZ];exact ku T G _ n.Xq a.Zd n.data (ND.bs.Z7 hG) (by omega)
   have wT:∀(G:Hp) (k:Nat) (m:Int) (p:Option Addr) (L c:Nat),G[k]? = some (.cells [.slice none 0 0,.int .i64 0].toArray 100)→wr G ⟨k,0,none⟩ [.slice p L c,.int .i64 m]=some (G.setIfInBounds k (.cells [.slice p L c,.int .i64 m].toArray 100)):=fun G k m p L c hx=>by
    rw[ZP hx 0 _];rfl
   rw[At a.node (w.nodes a.node) a.Zd L Z E (by rw[←Iv];exact hu) (by rw[←Iv];exact hLZ)]
   simp -implicitDefEqProofs only[go_sem,↓reduceIte,f7,bD]
   refine VS.mono (N:=fun F' g'=>F' 0=.pointer (some ⟨wb,0,none⟩)∧F' 3=.pointer (some ⟨h.size,0,none⟩)∧Zf g2.size g2 g'∧∃kt p c,F' 8=.pointer (some ⟨kt,0,none⟩)∧g'[kt]? = some (.cells [.slice p L.length c,.int .i64 Z].toArray 100)∧VT o g' (.slice p L.length c) L) ?_ ?_ (fun _ _ _ h=>h) (fun _ _ h=>h)
   ·refine VS.z (g2.size) [6,11] (.p 0 (.p 1 (.p 2 (.q 3 (.p 4 (.q 5 (.or 6 (.p 7 (.p 8 (.p 9 (.s 10 (.w 11 (.p 12 .nil)))))) (.s 10 (.w 6 (.p 7 (.p 8 (.p 9 (.w 11 (.p 12 .nil)))))))))))))) mixed (by kernel_rfl) ?_
    simp -implicitDefEqProofs only[go_sem,↓reduceIte,f0,f3,f7,P2t,q3,JA,l3]
    repeat' (first|with_reducible exact Zf.refl _ _|with_reducible exact Zf.push (by omega) _|with_reducible refine And.intro ?_ ?_)
    all_goals first
     | (refine (call g2 (Zf.refl _ _)).use ?_
        rintro _ g5 ⟨b5,p5,c5,L',Z',E',hz,rfl,bs,oq,uV⟩
        cases hz
        have s5:=b5.size
        have kk:=ZB K2.ZU b5
        have im:VT o g5 (.slice p5 L.length c5) L:=Kg kk.ZU bs oq fun b hb=>⟨K2.ZU b (uV b hb).1,(uV b hb).2⟩
        simp -implicitDefEqProofs only[go_sem,↓reduceIte,b5]
        exact⟨f0,f3,_,_,_,rfl,Zb,im.Zd (ZW kk.ZU _)⟩)
     | (refine (call (g2.push (.cells _ 100)) (Zf.push (Nat.le_refl _) _)).use ?_
        rintro _ g5 ⟨b5,p5,c5,L',Z',E',hz,rfl,bs,oq,uV⟩
        cases hz
        have B5:Zf g2.size g2 g5:=(Zf.push (Nat.le_refl _) _).trans (b5.mono (by simp))
        have xA:=b5.get (k:=g2.size) (by simp) Zb
        have V3:=wT _ _ Z p5 L.length c5 xA
        have zA:=Za xA
        have kk:=ZB K2.ZU B5
        have im:VT o g5 (.slice p5 L.length c5) L:=Kg kk.ZU bs oq fun b hb=>⟨K2.ZU b (by have:=(uV b hb).1;rw[Array.size_push]at this;omega),(uV b hb).2⟩
        have ks:=Dn kk.ZU im zA (fun b hb=>by have:=(uV b hb).1;rw[Array.size_push]at this;omega) (.cells [.slice p5 L.length c5,.int .i64 Z].toArray 100)
        simp -implicitDefEqProofs only[go_sem,↓reduceIte,B5,V3,zA]
        exact⟨f0,f3,_,_,_,rfl,Zt xA,ks⟩)
   clear f0 f3 f7
   rintro F3 g3 ⟨f0,f3,b3,kt,p3,c3,f8,yt,im3⟩
   have U0:=ZB K2.ZU b3
   have K3:=K2.trans U0
   have A3:=A2.still U0
   have z3:=y3.Zd U0
   obtain⟨b,off,c,hn,hc5,hb,PO⟩:=UT A3.wd
   have R3:=YQ A3.wd.ZD.2
   have Rn:=R3.nodes
   rw[hn]at Rn
   have GG:=Za A3.wd.ZD.2
   have q1:hc g3 ⟨h.size,1,none⟩=some (.int .i64 a.node):=Zg z3.2
   have l3:=Za z3.2
   have rt:rd g3 ⟨kt,0,none⟩ 2=some [.slice p3 L.length c3,.int .i64 Z]:=Zo yt rfl
   have lt:=Za yt
   have cb:Zc Tryz.prog T 54 #[.int .i64 a.node,.agg #[.slice p3 L.length c3,.int .i64 Z],.agg #[.int .i64 0,.int .i64 0,.slice none 0 0]] g3 _:=Ke T g3 o wb a.node (.slice p3 L.length c3) L Z (.slice none 0 0) Qp K3.ZU im3 (Im.nil _ _ _ _)
   refine VS.z (g3.size) [12] (.p 0 (.p 1 (.p 2 (.q 3 (.p 4 (.q 5 (.p 6 (.q 7 (.q 8 (.p 9 (.s 10 (.p 11 (.w 12 .nil))))))))))))) mixed (by kernel_rfl) ?_
   simp -implicitDefEqProofs only[go_sem,↓reduceIte,f0,f3,f8,Rn,q1,rt,GG,l3,lt,hb,aH]
   refine cb.use ?_
   rintro _ g4 ⟨nb,o4,a4,rfl,b4,k4,N4⟩
   have W4:=A3.wd.Zd k4 (by rintro t (rfl|rfl)<;>simp[Tg.of])
   obtain⟨b',ZnD,c',g5,SD,w5,k5,W5⟩:=Hf k4.ZU W4 a.node nb hi
   rw[hn]at SD
   simp only[Value.slice.injEq,Option.some.injEq,Addr.mk.injEq,true_and,and_true]at SD
   obtain⟨⟨rfl,rfl⟩,rfl⟩:=SD
   have hb4:b<g4.size:=Nat.lt_of_lt_of_le hb b4.size
   have N5:=N4.Zd k5 (by rintro t rfl e;cases e)
   have K5:Kp WO o h o4 g5:=((Ya K3).trans (Ya k4)).trans (Ya k5)
   have z5:=(z3.Zd k4).Zd k5
   unfold Zn at w5 ⊢
   simp -implicitDefEqProofs only[go_sem,↓reduceIte,b4,w5,hb4,aH]
   have R5:=YQ W5.ZD.2
   have R5n:=R5.nodes
   rw[hn]at R5n
   obtain⟨b'',Zsx,c'',zN,_,hb5,ZnE⟩:=UT W5
   rw[hn]at zN
   simp only[Value.slice.injEq,Option.some.injEq,Addr.mk.injEq,true_and,and_true]at zN
   obtain⟨⟨rfl,rfl⟩,rfl⟩:=zN
   have ri5:=ZnE a.node hi
   simp only[↓reduceIte]at ri5
   unfold Zn at ri5
   have Ar:=Za W5.ZD.2
   have ig:hc g5 ⟨h.size,1,none⟩=some (.int .i64 a.node):=Zg z5.2
   have l35:=Za z5.2
   have Rm:=Za N5.ZD.2
   obtain⟨g6,w6,N6,k6⟩:=ZT.write (n:={ blank a.node true L Z Qp with up:=false }) (a:=a4) { N5.pt with } K5.ZU N5.ZD ((YI N5.ZD.2 N5.pt.store.len).up false)
   refine VS.z (g5.size) [10] (.p 0 (.p 1 (.p 2 (.q 3 (.p 4 (.q 5 (.p 6 (.q 7 (.p 8 (.p 9 (.w 10 .nil))))))))))) mixed (by kernel_rfl) ?_
   simp -implicitDefEqProofs only[go_sem,↓reduceIte,f0,f3,R5n,ig,Ar,l35,hb5,aH,ri5,Rm,w6]
   have kk:Kp (fun t=>t=.nodes∨t.of=some a.node) o g3 o4 g6:=((k4.mono fun t q=>by rcases q with rfl|rfl<;>exact .inr rfl).trans (k5.mono fun t q=>.inl q)).trans (k6.mono fun t q=>.inr (by rw[q];rfl))
   exact⟨o4,Yy,_,K5.trans (Ya k6),A3.fresh kk N6 (W5.Zd k6 (by rintro t rfl;simp[Tg.of]))⟩
 ·-- a start
  have ea:act w a=w.set a.node (started a.node (w.nodes a.node)):=by unfold act;rw[if_neg (by omega),if_neg (by omega),if_neg (by omega),if_neg (by omega),if_neg (by omega),if_neg (by omega)]
  rw[ea]
  rw[e]at q0
  obtain⟨n,Iv⟩:=Zy (w.nodes a.node)
  have zM:=ok.data _ hi
  rw[←Iv]at N1 zM
  simp -implicitDefEqProofs only[go_sem,↓reduceIte,e0,q0]
  refine VS.mono (N:=fun F' g'=>Zf h1.size h1 g'∧F' 0=.pointer (some ⟨wb,0,none⟩)∧F' 3=.pointer (some ⟨h.size,0,none⟩)∧F' 10=.pointer (some ⟨Z4 a.node,0,none⟩)) ?_ ?_ (fun _ _ _ h=>h) (fun _ _ h=>h)
  ·refine VS.z (h1.size) [] (.p 0 (.p 1 (.p 2 (.q 3 (.p 4 (.q 5 (.p 6 (.q 7 (.p 8 .nil))))))))) mixed (by kernel_rfl) ?_
   simp -implicitDefEqProofs only[go_sem,↓reduceIte,Rn,q1,GG,l3,hb,aH,ri]
   try exact Zf.refl _ _
  rintro F2 g2 ⟨b2,f0,f3,f10⟩
  have Sx:=ZB k1.ZU b2
  have A2:=A1.still Sx
  have N2:=N1.still Sx
  have K2:=k1.trans Sx
  have CY:=tb1.Zd Sx
  have y3:=x3.Zd Sx
  have P2:=Zx N2.ZD.2 N2.pt.store.len
  have bD:=P2.up
  have JA:=Za N2.ZD.2
  cases hu:n.up with
  | true=>
   rw[hu]at bD
   have e1:started a.node (w.nodes a.node)=w.nodes a.node:=by unfold started;rw[←Iv,if_pos hu]
   rw[e1,TY]
   simp -implicitDefEqProofs only[go_sem,↓reduceIte,f10,bD]
   exact⟨o,Yy,Z4,Ya K2,A2⟩
  | false=>
   rw[hu]at bD
   obtain⟨pt,ct,ie,hct⟩:=N2.pt.data.1.fits
   have ie:na.data=.slice pt n.data.length ct:=ie
   have P2t:=P2.tape
   rw[ie]at P2t
   have ND:=N2.pt.data
   rw[ie]at ND
   obtain⟨D,hD⟩:=Zy (Aa n.data n.Xq)
   obtain⟨Z,hZ⟩:=Zy (rP n.data n.Xq)
   obtain⟨U7,ZeJ⟩:=Zy (if Y1 D Z then (TU D).1 else Qp)
   have es:started a.node (w.nodes a.node)=blank a.node true D Z U7:=by unfold started;rw[←Iv,if_neg (by rw[hu];simp),ZeJ,hD,hZ]
   rw[es]
   have hDl:D.length≤1000000:=by
    rw[hD];unfold Aa;split
    ·rw[List.length_take];omega
    ·simp
   simp -implicitDefEqProofs only[go_sem,↓reduceIte,f10,bD,P2t]
   refine (fp T g2 _ n.Xq n.data ND.bs hct (by omega) CY.tk).use ?_
   rintro v3 g3 ⟨R3,b3⟩
   obtain⟨p3,c3,E3,rfl,o3⟩:∃p c E,v3=.tuple [.agg [.slice p D.length c,.int .i64 Z].toArray,.int .i64 E].toArray∧ZZ g2.size 5 g3 (.slice p D.length c) D:=by
    obtain⟨r,k,E,w',rfl,ob,hk,hr⟩:=R3
    have h1:(if E=0 then n.data.take k else [])=D:=by
     rw[hD];unfold Aa
     split at hr
     ·rename_i q;rw[if_pos hr.1,if_pos q,GL hr.2]
     ·rename_i q;rw[if_neg (show ¬E=0 by omega),if_neg q]
    have h2:(if E=0 then (if (k:Int)<n.Xq then (k:Int) else n.Xq) else 0)=Z:=by
     rw[hZ];unfold rP
     split at hr
     ·rename_i q;rw[if_pos hr.1,if_pos q,GL hr.2]
     ·rename_i q;rw[if_neg (show ¬E=0 by omega),if_neg q]
    rw[h1]at ob
    rw[h2]
    obtain⟨p,c,rfl,_⟩:=ob.open
    exact⟨p,c,E,rfl,ob⟩
   have U0:=ZB K2.ZU b3
   obtain⟨g4,PN⟩:=Zy (g3.push (.cells [.slice p3 D.length c3,.int .i64 Z].toArray 100):Hp)
   have k4:Kp Qe o g2 o g4:=by rw[PN];exact U0.push _
   have x11:ZK o g4 g3.size (.cells [.slice p3 D.length c3,.int .i64 Z].toArray 100):=⟨U0.ZU _ (Nat.le_refl _),by rw[PN];exact Zb⟩
   have e4:=PN.symm
   have iD4:VT o g4 (.slice p3 D.length c3) D:=by rw[PN];exact VT.Zd ⟨Im.QK o3.own (fun b hb=>K2.ZU b hb),o3.byte⟩ (ZW U0.ZU _)
   have r11:rd g4 ⟨g3.size,0,none⟩ 2=some [.slice p3 D.length c3,.int .i64 Z]:=Zo x11.2 rfl
   have tb4:=CY.Zd k4
   simp -implicitDefEqProofs only[go_sem,↓reduceIte,e4,r11]
   refine (LS T g4 _ Z D iD4.bs (by omega) tb4.tk).use ?_
   rintro v5 g5 ⟨R5,b5⟩
   obtain⟨p5,c5,E5,K5',rfl,o5⟩:∃p c E K,v5=.tuple [.agg [.int .i64 U7.p.r,.int .i64 U7.p.n,.slice p U7.l.length c].toArray,.int .i64 K,.int .i64 E].toArray∧UZ o g5 (.slice p U7.l.length c) U7.l:=by
    obtain⟨r,k,E,w',rfl,ob,hk,_,hr⟩:=R5
    have h1:r=U7:=by
     rw[ZeJ]
     split at hr
     ·rw[if_pos (by assumption),GL hr.2]
     ·rw[if_neg (by assumption)];exact hr.2.1
    rw[h1]at ob ⊢
    have im:UZ o g5 w' U7.l:=Im.QK ob.own (fun b hb=>k4.ZU b hb)
    obtain⟨p,c,rfl⟩:=im.isSlice
    exact⟨p,c,E,_,rfl,im⟩
   have I9:=ZB k4.ZU b5
   obtain⟨g6,PQ⟩:=Zy (g5.push (.cells [.int .i64 U7.p.r,.int .i64 U7.p.n,.slice p5 U7.l.length c5].toArray 105):Hp)
   have k6:Kp Qe o g4 o g6:=by rw[PQ];exact I9.push _
   have x13:ZK o g6 g5.size (.cells [.int .i64 U7.p.r,.int .i64 U7.p.n,.slice p5 U7.l.length c5].toArray 105):=⟨I9.ZU _ (Nat.le_refl _),by rw[PQ];exact Zb⟩
   have e6:=PQ.symm
   have K6:Kp Qe o h o g6:=(K2.trans k4).trans k6
   have iD6:=iD4.Zd k6
   have iV6:UZ o g6 (.slice p5 U7.l.length c5) U7.l:=by rw[PQ];exact o5.Zd (ZW I9.ZU _)
   have A6:=(A2.still k4).still k6
   have z3:=(y3.Zd k4).Zd k6
   have z11:=x11.Zd k6
   clear hn hc5 hb PO Rn GG q1 l3 ri
   obtain⟨b,off,c,hn,hc5,hb,PO⟩:=UT A6.wd
   have R6:=YQ A6.wd.ZD.2
   have Rn:=R6.nodes
   rw[hn]at Rn
   have GG:=Za A6.wd.ZD.2
   have q1:hc g6 ⟨h.size,1,none⟩=some (.int .i64 a.node):=Zg z3.2
   have l3:=Za z3.2
   have rt:rd g6 ⟨g3.size,0,none⟩ 2=some [.slice p3 D.length c3,.int .i64 Z]:=Zo z11.2 rfl
   have lt:=Za z11.2
   have ra:rd g6 ⟨g5.size,0,none⟩ 3=some [.int .i64 U7.p.r,.int .i64 U7.p.n,.slice p5 U7.l.length c5]:=Zo x13.2 rfl
   have la:=Za x13.2
   have cb:=Ke T g6 o wb a.node (.slice p3 D.length c3) D Z (.slice p5 U7.l.length c5) U7 K6.ZU iD6 iV6
   simp -implicitDefEqProofs only[go_sem,↓reduceIte,e6]
   refine VS.z (g6.size) [12] (.p 0 (.p 1 (.p 2 (.q 3 (.p 4 (.q 5 (.p 6 (.q 7 (.q 8 (.q 9 (.s 10 (.p 11 (.w 12 .nil))))))))))))) mixed (by kernel_rfl) ?_
   simp -implicitDefEqProofs only[go_sem,↓reduceIte,f0,f3,Rn,q1,rt,ra,GG,l3,lt,la,hb,aH]
   refine cb.use ?_
   rintro _ g7 ⟨nb,o7,a7,rfl,b7,k7,N7⟩
   have W7:=A6.wd.Zd k7 (by rintro t (rfl|rfl)<;>simp[Tg.of])
   obtain⟨b',ZnD,c',g8,SD,w8,k8,W8⟩:=Hf k7.ZU W7 a.node nb hi
   rw[hn]at SD
   simp only[Value.slice.injEq,Option.some.injEq,Addr.mk.injEq,true_and,and_true]at SD
   obtain⟨⟨rfl,rfl⟩,rfl⟩:=SD
   have hb7:b<g7.size:=Nat.lt_of_lt_of_le hb b7.size
   have N8:=N7.Zd k8 (by rintro t rfl e;cases e)
   have K8:Kp WO o h o7 g8:=((Ya K6).trans (Ya k7)).trans (Ya k8)
   unfold Zn at w8 ⊢
   simp -implicitDefEqProofs only[go_sem,↓reduceIte,b7,w8,hb7,aH]
   have kk:Kp (fun t=>t=.nodes∨t.of=some a.node) o g6 o7 g8:=(k7.mono fun t q=>by rcases q with rfl|rfl<;>exact .inr rfl).trans (k8.mono fun t q=>.inl q)
   exact⟨o7,Yy,_,K8,A6.fresh kk N8 W8⟩
def Ki (Z4:Nat→Nat) (j:Nat):List Value:=(List.range j).map fun i=>Zn (Z4 i)
theorem AA (Z4:Nat→Nat) (j:Nat):Ki Z4 (j+1)=Ki Z4 j++[Zn (Z4 j)]:=by
 unfold Ki;rw[List.range_succ,List.map_append];rfl
theorem AB (Z4:Nat→Nat) (j nb:Nat):Ki (fun i=>if i=j then nb else Z4 i) j=Ki Z4 j:=by
 unfold Ki
 apply List.map_congr_left
 intro i hi
 rw[List.mem_range]at hi
 simp only
 rw[if_neg (by omega)]
set_option maxHeartbeats 4000000 in
theorem ny (T:World) (h:Hp) (o:Ow) (d:Q3 o h) :
  Zc Tryz.prog T 33 #[] h fun v' h'=>∃wb Z4 o' Yy,v'=Zn wb∧Kp WO o h o' h'∧X2 o' h' wb Z4 Yy QJ:=by
 refine Zc.Zh (args:=[]) Tryz.func33 rfl rfl rfl rfl ?_
 obtain⟨wb,zO⟩:=Zy (h.size)
 obtain⟨g1,PY⟩:=Zy (h.push (.cells (Y2 (fun _=>0) ⟨.slice none 0 0,.slice none 0 0,.slice none 0 0⟩).toArray 97):Hp)
 have e1:=PY.symm
 unfold Y2 at e1
 simp only at e1
 have k1:Kp WO o h (Ji o wb .world) g1:=by rw[PY,zO];exact ((Kp.refl d WO).push _).Tx (Nat.le_refl _) (by simp) trivial
 have B1:QA (Ji o wb .world) .world g1 wb (.cells (Y2 (fun _=>0) ⟨.slice none 0 0,.slice none 0 0,.slice none 0 0⟩).toArray 97):=⟨YR,by rw[PY,zO];exact Zb⟩
 simp -implicitDefEqProofs only[go_sem,↓reduceIte,e1]
 rw[←zO]
 refine VS.ZV (fun F g=>F 1=.pointer (some ⟨wb,0,none⟩)∧∃(j:Nat) (o':Ow) (Z4:Nat→Nat) (v:Value),j≤5∧F 5=.int .i64 j∧Kp WO o h o' g∧QA o' .world g wb (.cells (Y2 (fun _=>0) ⟨v,.slice none 0 0,.slice none 0 0⟩).toArray 97)∧Ys o' .nodes 98 1 g v j (Ki Z4 j)∧∀i,i<j→∃a,ZH o' g wb i (Z4 i) a (blank i true [] 0 Qp))
  (fun F _=>5-(vi (F 5)).toNat) rfl ⟨rfl,0,_,fun _=>0,.slice none 0 0,by omega,rfl,k1,B1,Ys.nil _ _ _ _ _,fun i hi=>by omega⟩ ?_
 clear B1 k1 e1 PY
 rintro F2 g2 ⟨f1,j,o2,Z4,v,hj,f5,K2,B2,O2,N2⟩
 by_cases ZA:j<5
 ·have ZI:(j:Int)<5:=by omega
  obtain⟨pv,cv,rfl,_⟩:=O2.isSlice
  have R2:=YQ B2.2
  have Rn:=R2.nodes
  simp only at Rn
  have GG:=Za B2.2
  have cb:Zc Tryz.prog T 54 #[.int .i64 j,.agg #[.slice none 0 0,.int .i64 0],.agg #[.int .i64 0,.int .i64 0,.slice none 0 0]] g2 _:=Ke T g2 o2 wb j (.slice none 0 0) [] 0 (.slice none 0 0) Qp K2.ZU ⟨Im.nil _ _ _ _,fun x hx=>by cases hx⟩ (Im.nil _ _ _ _)
  simp -implicitDefEqProofs only[go_sem,↓reduceIte,f1,f5,ZI]
  refine VS.z (g2.size) [10,13] (.p 0 (.p 1 (.p 2 (.p 3 (.q 4 (.p 5 (.p 6 (.p 7 (.s 8 (.s 9 (.w 10 (.p 11 (.p 12 (.w 13 .nil)))))))))))))) mixed (by kernel_rfl) ?_
  simp -implicitDefEqProofs only[go_sem,↓reduceIte,f1,f5,Rn,GG]
  refine cb.use ?_
  rintro _ g3 ⟨nb,o3,a3,rfl,b3,k3,N3⟩
  unfold Zn
  simp -implicitDefEqProofs only[go_sem,↓reduceIte,b3]
  obtain⟨g4,PN⟩:=Zy (g3.push (.cells [Zn nb].toArray 98):Hp)
  have e4:=PN.symm
  unfold Zn at e4
  rw[e4]
  have k4:Kp Qe o3 g3 o3 g4:=by rw[PN];exact ZW k3.ZU _
  have B4:=(B2.Zd k3 (by rintro (e|e)<;>cases e)).Zd k4 (fun q=>q)
  have O4:=(O2.Zd k3 (by rintro (e|e)<;>cases e)).Zd k4 (fun q=>q)
  have N4:=N3.still k4
  have M4:∀i,i<j→∃a,ZH o3 g4 wb i (Z4 i) a (blank i true [] 0 Qp):=fun i hi=>by
   obtain⟨a,N⟩:=N2 i hi
   refine⟨a,(N.Zd k3 ?_).still k4⟩
   rintro t (rfl|rfl) e
   ·have:=Option.some.inj e;omega
   ·have:=Option.some.inj e;omega
  have x4:g4[g3.size]? = some (.cells [Zn nb].toArray 98):=by rw[PN];exact Zb
  have src:Sl 1 g4 (.slice (some ⟨g3.size,0,none⟩) 1 1) 1 [Zn nb]:=⟨_,1,rfl,rfl,fun _=>⟨g3.size,0,rfl,fun i hi=>by
   rw[Zg x4,Yi,Nat.zero_add];exact List.getElem?_eq_getElem hi⟩⟩
  refine XQ (E:=98) (n:=1) (bytes:=8) (k:=1) Zcm Tryz.underlying94 ZjT ZjV rfl ZjU O4 k4.ZU src rfl (by omega) (by omega) ?_
  intro v' o5 g5 O5 k5 _
  have k5:Kp (fun u=>u=.nodes) o3 g4 o5 g5:=k5
  obtain⟨p5,c5,rfl,_⟩:=O5.isSlice
  have B5:=B4.Zd k5 (by intro e;cases e)
  have w5:=(YQ B5.2).yW (.slice p5 (j+1) c5) rfl
  have Ar:=Za B5.2
  obtain⟨g6,PQ⟩:=Zy (g5.setIfInBounds wb (.cells (Y2 (fun _=>0) ⟨.slice p5 (j+1) c5,.slice none 0 0,.slice none 0 0⟩).toArray 97))
  simp only at w5
  rw[←PQ]at w5
  have k6:Kp (fun t=>t=.world) o5 g5 o5 g6:=by rw[PQ];exact (Kp.refl k5.ZU (fun t=>t=.world)).set B5.1 rfl _
  have B6:QA o5 .world g6 wb (.cells (Y2 (fun _=>0) ⟨.slice p5 (j+1) c5,.slice none 0 0,.slice none 0 0⟩).toArray 97):=⟨B5.1,by rw[PQ];exact Zt B5.2⟩
  have K6:Kp WO o h o5 g6:=(((K2.trans (Ya k3)).trans (Ya k4)).trans (Ya k5)).trans (Ya k6)
  simp -implicitDefEqProofs only[go_sem,↓reduceIte,w5,Ar,f5]
  unfold Y6
  refine⟨⟨f1,j+1,o5,(fun i=>if i=j then nb else Z4 i),.slice p5 (j+1) c5,ZA,rfl,K6,B6,?_,fun i hi=>?_⟩,?_⟩
  ·rw[AA,AB]
   simp only[↓reduceIte]
   exact O5.Zd k6 (by intro e;cases e)
  ·by_cases e:i=j
   ·subst e
    refine⟨a3,?_⟩
    simp only[↓reduceIte]
    exact (N4.Zd k5 (by rintro t rfl e;cases e)).Zd k6 (by rintro t rfl e;cases e)
   ·obtain⟨a,N⟩:=M4 i (by omega)
    refine⟨a,?_⟩
    simp only[if_neg e]
    exact (N.Zd k5 (by rintro t rfl e;cases e)).Zd k6 (by rintro t rfl e;cases e)
  ·simp only[vi,Zj,↓reduceIte,f5];omega
 ·have YF:¬(j:Int)<5:=by omega
  obtain rfl:j=5:=by omega
  simp -implicitDefEqProofs only[go_sem,↓reduceIte,f1,f5,YF]
  exact⟨wb,Z4,o2,_,rfl,K2,⟨B2,O2,⟨[],rfl,Ys.nil _ _ _ _ _,fun x hx=>by cases hx⟩,Ys.nil _ _ _ _ _⟩,fun i hi=>N2 i hi⟩
theorem AD (T:World) (h:Hp) (u:Value) (l:List Cm) (s:Ts Qc.C 5 h u l) (hl:l.length≤2199023255552) :
  Zc Tryz.prog T 35 #[u] h fun v' h'=>X7 h.size 49 Qc.C 5 h' v' l∧Zf h.size h h':=by
 obtain⟨p,c,rfl,Uo⟩:=Ju s
 refine Zc.Zh (args:=[_]) Tryz.func35 rfl rfl rfl rfl ?_
 cases p with
 | none=>
  have:l=[]:=by
   cases l with
   | nil=>rfl
   | cons x l=>obtain⟨b,o,hp,_⟩:=Uo (by simp);cases hp
  subst this
  simp -implicitDefEqProofs only[go_sem,↓reduceIte]
  exact X7.nil _ _ _ _ _
 | some a=>
  simp -implicitDefEqProofs only[go_sem,↓reduceIte]
  refine Sb (E:=49) (B:=h.size) (n:=5) (bytes:=40) FL Tryz.underlying37 xp jX rfl Zcl (fun _=>rfl) (X7.KL _ _ Qc.C 5 _ _) (by simp) (s.Z7 (Zf.push (Nat.le_refl _) _)) (by simp;omega) (by omega) ?_
  intro v' h' ho hb _
  simp -implicitDefEqProofs only[go_sem,↓reduceIte]
  exact⟨by simpa using ho,(Zf.push (Nat.le_refl _) _).trans hb⟩
structure Raw where
 k:Int
 n:Int
 a:Int
 b:Int
 data:List Nat
def Raw.ac (x:Raw):Ac:=⟨x.k,x.n.toNat,x.a.toNat,x.b,x.data⟩
def Raw.err (x:Raw):Int:=Ql x.k x.n x.a x.b x.data.length
def X3 (x:Raw × Value):List Value:=WQ x.1.k x.1.n x.1.a x.1.b x.2
def JC:List Raw→Int
 | []=>0
 | x :: l=>if x.err≠0 then x.err else JC l
def WR (l:List Raw):Int:=if 100000<l.length then 1 else JC l
theorem Dt (x:Raw × Value):(X3 x).length=5:=rfl
theorem Kj {l:List Raw} {j:Nat} (hj:j<l.length) (h0:∀x∈l.take j,x.err=0) (h1:l[j].err≠0):JC l=l[j].err:=by
 induction l generalizing j with
 | nil=>simp at hj
 | cons y l ih=>
  cases j with
  | zero=>unfold JC;rw[if_pos (by simpa using h1)];rfl
  | succ j=>
   unfold JC
   rw[if_neg (by simpa using h0 y (by simp))]
   exact ih (by simpa using hj) (fun x hx=>h0 x (by simp[hx])) (by simpa using h1)
theorem TZ {l:List Raw} (h0:∀x∈l,x.err=0):JC l=0:=by
 induction l with
 | nil=>rfl
 | cons y l ih=>unfold JC;rw[if_neg (by simpa using h0 y (by simp))];exact ih fun x hx=>h0 x (by simp[hx])
theorem AE {x:Raw} (h:x.err=0):(1≤x.k∧x.k≤9)∧(0≤x.n∧x.n≤4)∧(0≤x.a∧x.a≤1048576)∧(0≤x.b∧x.b≤100000)∧x.data.length≤2000:=by
 unfold Raw.err Ql at h
 by_cases c1:1≤x.k∧x.k≤9
 case neg=>rw[if_pos c1]at h;cases h
 rw[if_neg (by simpa using c1)]at h
 by_cases c2:(YG x.k∧¬(0≤x.n∧x.n≤4))∨(Jd x.k∧¬(0≤x.a∧x.a≤1048576))∨(x.k=8∧¬(0≤x.b∧x.b≤100000))
 ·rw[if_pos c2]at h;cases h
 rw[if_neg c2]at h
 by_cases c3:2000<x.data.length
 ·rw[if_pos c3]at h;cases h
 rw[if_neg c3]at h
 by_cases c4:(¬YG x.k∧x.n≠0)∨(¬Jd x.k∧x.a≠0)∨(x.k≠8∧x.b≠0)∨(x.k≠1∧0<x.data.length)
 ·rw[if_pos c4]at h;cases h
 refine⟨c1,?_,?_,?_,by omega⟩
 ·by_cases q:YG x.k
  ·exact Classical.byContradiction fun e=>c2 (.inl ⟨q,e⟩)
  ·have:x.n=0:=Classical.byContradiction fun e=>c4 (.inl ⟨q,e⟩)
   omega
 ·by_cases q:Jd x.k
  ·exact Classical.byContradiction fun e=>c2 (.inr (.inl ⟨q,e⟩))
  ·have:x.a=0:=Classical.byContradiction fun e=>c4 (.inr (.inl ⟨q,e⟩))
   omega
 ·by_cases q:x.k=8
  ·exact Classical.byContradiction fun e=>c2 (.inr (.inr ⟨q,e⟩))
  ·have:x.b=0:=Classical.byContradiction fun e=>c4 (.inr (.inr (.inl ⟨q,e⟩)))
   omega
def Xd (xs:List (Raw × Value)):List Raw:=xs.map (·.1)
def Rt:Ow:=fun _=>none
theorem OI (h:Hp):Q3 Rt h:=fun _ _=>rfl
theorem T1 {S:Tg→Prop} {h h':Hp} {o':Ow} (k:Kp S Rt h o' h'):Zf h.size h h':=
 ⟨k.size,fun b hb=>(k.Zd b hb fun t ht=>by cases ht).1⟩
def ij:List Value:=[.int .i64 0,.bool false,.bool false,.bool false,.bool false,.bool false,.slice none 0 0,.int .i64 0,.int .i64 0,.int .i64 0,.int .i64 0,.int .i64 0,.slice none 0 0]
def AF (w:Wd) (lv tv:Value):List Value:=[.int .i64 w.Zl.length,.bool (w.nodes 0).up,.bool (w.nodes 1).up,.bool (w.nodes 2).up,.bool (w.nodes 3).up,.bool (w.nodes 4).up,lv,.int .i64 (w.bad 0),.int .i64 (w.bad 1),.int .i64 (w.bad 2),.int .i64 (w.bad 3),.int .i64 (w.bad 4),tv]
structure AG (h:Hp) (R:List Value) (w:Wd) (lv tv:Value) (vs:List Value):Prop where
 cells:R=AF w lv tv
 zQ:Ts (fun v=>[v]) 1 h lv vs
 each:DN (fun v l=>Ts Qc.C 5 h v l) vs [(w.nodes 0).log,(w.nodes 1).log,(w.nodes 2).log,(w.nodes 3).log,(w.nodes 4).log]
 told:Ts LZ 5 h tv w.told
def Ug (B:Nat) (h:Hp) (R:List Value) (w:Wd) (lv tv:Value) (vs:List Value):Prop:=∀G:Hp,(∀b,B≤b→b<h.size→G[b]? = h[b]?)→AG G R w lv tv vs
theorem Ug.at {B:Nat} {h:Hp} {R:List Value} {w:Wd} {lv tv:Value} {vs:List Value} (s:Ug B h R w lv tv vs):AG h R w lv tv vs:=s h fun _ _ _=>rfl
theorem Ug.Z7 {B:Nat} {h h':Hp} {R:List Value} {w:Wd} {lv tv:Value} {vs:List Value} (s:Ug B h R w lv tv vs) (b:Zf h.size h h'):Ug B h' R w lv tv vs:=
 fun G hG=>s G fun k h1 h2=>by rw[hG k h1 (Nat.lt_of_lt_of_le h2 b.size)];exact b.block k h2
theorem Ug.set {B:Nat} {h:Hp} {R:List Value} {w:Wd} {lv tv:Value} {vs:List Value} (s:Ug B h R w lv tv vs) {k:Nat} (hk:k<B) (x:Obj):Ug B (h.setIfInBounds k x) R w lv tv vs:=
 fun G hG=>s G fun b h1 h2=>by rw[hG b h1 (by simpa using h2),Array.getElem?_setIfInBounds,if_neg (by omega)]
def Hk (B:Nat) (h':Hp) (v':Value) (l:List Raw):Prop:=
 if WR l=0 then ∃R lv tv vs,v'=.tuple #[.agg R.toArray,.int .i64 0]∧Ug B h' R (WK (l.map Raw.ac)) lv tv vs
 else v'=.tuple #[.agg ij.toArray,.int .i64 (WR l)]
theorem Hl {h:Hp} {v:Value} {l:List (Raw × Value)} (s:Ts X3 5 h v l):∃p c,v=.slice p l.length c∧(l≠[]→∃b o,p=some ⟨b,o,none⟩∧b<h.size∧∀i (hi:i<l.length),rd h ⟨b,o+i*5,none⟩ 5=some (X3 l[i])):=by
 obtain⟨p,c,hv,hh⟩:=s.open Dt (by decide)
 refine⟨p,c,hv,fun Yq=>?_⟩
 obtain⟨b,o,h1,h2,h3⟩:=hh Yq
 exact⟨b,o,h1,h2,fun i hi=>(h3 i hi).rd (by simp[X3,WQ]) rfl⟩
def Du (w:Wd) (j:Nat) (lv tv:Value):List Value:=[.int .i64 w.Zl.length,.bool (if 0<j then (w.nodes 0).up else false),.bool (if 1<j then (w.nodes 1).up else false),.bool (if 2<j then (w.nodes 2).up else false),.bool (if 3<j then (w.nodes 3).up else false),.bool (if 4<j then (w.nodes 4).up else false),lv,.int .i64 (w.bad 0),.int .i64 (w.bad 1),.int .i64 (w.bad 2),.int .i64 (w.bad 3),.int .i64 (w.bad 4),tv]
theorem bL (w:Wd) (j:Nat) (lv tv:Value):(Du w j lv tv).length=13:=rfl
theorem zR (w:Wd) (j:Nat) (lv tv:Value) (hj:j<5):(Du w j lv tv).set (1+j) (.bool (w.nodes j).up)=Du w (j+1) lv tv:=by
 match j,hj with
 | 0,_=>rfl
 | 1,_=>rfl
 | 2,_=>rfl
 | 3,_=>rfl
 | 4,_=>rfl
theorem tI (w:Wd) (j:Nat) (lv lv' tv:Value):(Du w j lv tv).set 6 lv'=Du w j lv' tv:=rfl
def Kk (w:Wd) (j:Nat):List (List Cm):=(List.range j).map fun i=>(w.nodes i).log
theorem Dv (w:Wd) (j:Nat):Kk w (j+1)=Kk w j++[(w.nodes j).log]:=by
 unfold Kk;rw[List.range_succ,List.map_append];rfl
def AH (t:Tg):Prop:=t=.log 100∨t=.log 101
theorem Kl {α β:Type} {R R':α→β→Prop} {l:List α} {k:List β} (s:DN R l k) (h:∀x y,R x y→R' x y):DN R' l k:=by
 induction s with
 | nil=>exact .nil
 | cons a _ ih=>exact .cons (h _ _ a) ih
theorem gj (l:List Value):Zu (fun v=>[v]) l=l:=by
 induction l with
 | nil=>rfl
 | cons x l ih=>
  have:Zu (fun v=>[v]) (x :: l)=[x]++Zu (fun v=>[v]) l:=by simp[Zu]
  rw[this,ih];rfl
theorem nz {o:Ow} {t:Tg} {E:TypeId} {n m b:Nat} {h:Hp} {v:Value} {cs:List Value} (s:Ys o t E n h v m cs) (hb:ZL v=some b):o b=some t:=by
 rcases s with⟨⟨q,rfl⟩,_,_⟩|⟨b',j,cap,pre,spare,h1,rfl,h3,h4,h5,h6,h7⟩
 ·cases q<;>simp[ZL]at hb
 ·unfold ZL at hb
  simp only at hb
  split at hb
  ·cases hb
  ·have:=Option.some.inj hb
   rw[←this];exact h1
theorem bM {o:Ow} {t:Tg} {E:TypeId} {n m:Nat} {h G:Hp} {v:Value} {cs:List Value} (s:Ys o t E n h v m cs) (hG:∀b,o b=some t→b<h.size→G[b]? = h[b]?):Ys o t E n G v m cs:=by
 rcases s with s|⟨b',j,cap,pre,spare,h1,rfl,h3,h4,h5,h6,h7⟩
 ·exact .inl s
 ·exact .inr ⟨b',j,cap,pre,spare,h1,rfl,by rw[hG b' h1 (Za h3)];exact h3,h4,h5,h6,h7⟩
theorem ZeK {o:Ow} {n m:Nat} {h G:Hp} {v:Value} {cs:List Value} (s:Im o n h v m cs) (hG:∀b,ZL v=some b→b<h.size→G[b]? = h[b]?):Sl n G v m cs:=by
 obtain⟨⟨p,c,rfl,hl,oq⟩,⟨p',c',he,hm⟩,hf⟩:=s
 simp only[Value.slice.injEq,true_and]at he
 obtain⟨rfl,rfl⟩:=he
 refine⟨p,c,rfl,hl,fun Yq=>?_⟩
 obtain⟨b,off,rfl,YL⟩:=oq Yq
 have ab:c≠0:=by
  intro e
  have:m=0:=by omega
  rw[this,Nat.zero_mul]at hl
  exact Yq (List.eq_nil_of_length_eq_zero hl)
 have hb:ZL (.slice (some ⟨b,off,none⟩) m c)=some b:=by unfold ZL;simp only;rw[if_neg ab]
 refine⟨b,off,rfl,fun i hi=>?_⟩
 have h1:=YL i hi
 have h2:=hG b hb (hf b hb).1
 unfold V.hc at h1 ⊢
 rw[h2];exact h1
theorem Dw {S:Tg→Prop} {h h':Hp} {o':Ow} {t:Tg} {b:Nat} (k:Kp S Rt h o' h') (hb:o' b=some t):h.size≤b:=by
 refine Classical.byContradiction fun q=>?_
 obtain⟨_,h2⟩:=k.Zd b (by omega) (fun t ht=>by cases ht)
 rw[hb]at h2;cases h2
set_option maxHeartbeats 8000000 in
theorem tJ (T:World) (h:Hp) (v:Value) (xs:List (Raw × Value)) (hv:Ts X3 5 h v xs) (hx:∀x∈xs,VT Rt h x.2 x.1.data) (tb:DT Rt h) (BH:xs.length≤4611686018427387904)
  (inv:(∀x∈Xd xs,x.err=0)→xs.length≤100000→∀j,j≤xs.length→WOk (WK (((Xd xs).take j).map Raw.ac))) :
  Zc Tryz.prog T 20 #[v] h fun v' h'=>Zf h.size h h'∧Hk h.size h' v' (Xd xs):=by
 obtain⟨p,c,rfl,YL⟩:=Hl hv
 refine Zc.XJ (args:=[_]) Tryz.func20 rfl rfl rfl rfl ?_
 obtain⟨h1,Yv⟩:=Zy (h.push (.cells ij.toArray 33):Hp)
 have e1:=Yv.symm
 unfold ij at e1
 have b1:Zf h.size h h1:=by rw[Yv];exact Zf.push (Nat.le_refl _) _
 have s1:h1.size=h.size+1:=by rw[Yv];simp
 have x2:h1[h.size]? = some (.cells ij.toArray 33):=by rw[Yv];exact Zb
 have rl:(Xd xs).length=xs.length:=by unfold Xd;simp
 have rz:∀G:Hp,Zf h1.size h1 G→G[h.size]? = some (.cells ij.toArray 33):=fun G hG=>hG.get (by omega) x2
 have wz:∀G:Hp,Zf h1.size h1 G→wr G ⟨h.size,0,none⟩ [.int .i64 0,.bool false,.bool false,.bool false,.bool false,.bool false,.slice none 0 0,.int .i64 0,.int .i64 0,.int .i64 0,.int .i64 0,.int .i64 0,.slice none 0 0]=some G:=fun G hG=>by
  rw[ZP (rz G hG) 0 _]
  have:(G.setIfInBounds h.size (.cells (Ym ij 0 [.int .i64 0,.bool false,.bool false,.bool false,.bool false,.bool false,.slice none 0 0,.int .i64 0,.int .i64 0,.int .i64 0,.int .i64 0,.int .i64 0,.slice none 0 0]).toArray 33))=G:=Pj (rz G hG)
  rw[if_pos ⟨by simp[ij],rfl⟩]
  exact congrArg some this
 have rr:∀G:Hp,Zf h1.size h1 G→rd G ⟨h.size,0,none⟩ 13=some [.int .i64 0,.bool false,.bool false,.bool false,.bool false,.bool false,.slice none 0 0,.int .i64 0,.int .i64 0,.int .i64 0,.int .i64 0,.int .i64 0,.slice none 0 0]:=fun G hG=>Zo (rz G hG) rfl
 have w0:=wz h1 (Zf.refl _ _)
 have r0:=rr h1 (Zf.refl _ _)
 have l0:=Za x2
 by_cases vK:100000<xs.length
 ·have nA:(xs.length:Int)>100000:=by omega
  have e2:WR (Xd xs)=1:=by unfold WR;rw[rl,if_pos vK]
  simp -implicitDefEqProofs only[go_sem,↓reduceIte,e1,nA,w0,r0]
  refine⟨b1,?_⟩
  unfold Hk
  rw[e2,if_neg (by decide)]
  rfl
 have nA:¬(xs.length:Int)>100000:=by omega
 have zS:xs.length≤100000:=by omega
 have e2:WR (Xd xs)=JC (Xd xs):=by unfold WR;rw[rl,if_neg vK]
 have GO:∀i (hi:i<xs.length),(Xd xs)[i]'(by rw[rl];exact hi)=xs[i].1:=fun i hi=>by unfold Xd;simp
 simp -implicitDefEqProofs only[go_sem,↓reduceIte,e1,nA]
 refine VS.ZV (fun F g=>F 0=.slice p xs.length c∧F 2=.pointer (some ⟨h.size,0,none⟩)∧F 17=.slice p xs.length c∧F 18=.int .i64 xs.length∧Zf h1.size h1 g∧∃j:Nat,j≤xs.length∧F 19=.int .i64 j∧∀x∈(Xd xs).take j,x.err=0)
  (fun F _=>xs.length-(vi (F 19)).toNat) rfl ⟨rfl,rfl,rfl,rfl,Zf.refl _ _,0,Nat.zero_le _,rfl,fun x hx=>by simp at hx⟩ ?_
 rintro F2 g2 ⟨f0,f2,f17,f18,b2,j,hj,f19,hz⟩
 by_cases ZA:j<xs.length
 ·have ZI:(j:Int)<xs.length:=by omega
  obtain⟨bb,oo,rfl,UX,PO⟩:=YL (by intro e;rw[e]at ZA;simp at ZA)
  obtain⟨x,Rd⟩:=Zy (xs[j])
  have vy:x∈xs:=by rw[Rd];exact List.getElem_mem ZA
  have iv:=hx x vy
  obtain⟨pd,cd,PZ⟩:=iv.1.isSlice
  have r1:rd g2 ⟨bb,oo+j*5,none⟩ 5=some (X3 x):=by rw[JH (b1.trans (b2.mono (by omega))) UX,Rd];exact PO j ZA
  unfold X3 WQ at r1
  rw[PZ]at r1
  obtain⟨g3,Ak⟩:=Zy (g2.push (.cells (WQ x.1.k x.1.n x.1.a x.1.b (.slice pd x.1.data.length cd)).toArray 36):Hp)
  have e3:=Ak.symm
  have y3:g3[g2.size]? = some (.cells (WQ x.1.k x.1.n x.1.a x.1.b (.slice pd x.1.data.length cd)).toArray 36):=by rw[Ak];exact Zb
  have r3:rd g3 ⟨g2.size,0,none⟩ 5=some (WQ x.1.k x.1.n x.1.a x.1.b (.slice pd x.1.data.length cd)):=Zo y3 rfl
  unfold WQ at e3 r3
  have b3:Zf h1.size h1 g3:=by rw[Ak];exact b2.Yf b2.size _
  have ck:=KX T g3 x.1.k x.1.n x.1.a x.1.b pd x.1.data.length cd
  unfold Lv at ck
  simp -implicitDefEqProofs only[go_sem,↓reduceIte,f0,f2,f17,f18,f19,ZI,r1,e3,r3]
  refine ck.use ?_
  rintro _ g4 ⟨rfl,b4⟩
  have B4:Zf h1.size h1 g4:=b3.trans (b4.mono b3.size)
  have exr:x.1.err=Ql x.1.k x.1.n x.1.a x.1.b x.1.data.length:=rfl
  rw[←exr]
  by_cases hex:x.1.err=0
  ·simp -implicitDefEqProofs only[go_sem,↓reduceIte,hex,f19]
   unfold Y6
   refine⟨⟨f0,f2,f17,f18,B4,j+1,ZA,rfl,fun y hy=>?_⟩,?_⟩
   ·rw[Ye _ j (by rw[rl];exact ZA),List.mem_append]at hy
    rcases hy with hy|hy
    ·exact hz y hy
    ·rw[GO j ZA,←Rd]at hy
     have:y=x.1:=by simpa using hy
     rw[this];exact hex
   ·simp only[vi,Zj,↓reduceIte,f19];omega
  ·have w4:=wz g4 B4
   have r4:=rr g4 B4
   have l4:=Za (rz g4 B4)
   simp -implicitDefEqProofs only[go_sem,↓reduceIte,hex,w4,r4,f2,l4]
   refine⟨b1.trans (B4.mono (by omega)),?_⟩
   unfold Hk
   have:JC (Xd xs)=x.1.err:=by
    have:=Kj (l:=Xd xs) (j:=j) (by rw[rl];exact ZA) hz (by rw[GO j ZA,←Rd];exact hex)
    rw[this,GO j ZA,←Rd]
   rw[e2,this,if_neg hex]
   rfl
 have YF:¬(j:Int)<xs.length:=by omega
 obtain rfl:j=xs.length:=by omega
 have YU:∀x∈Xd xs,x.err=0:=fun x hx=>hz x (by rw[List.take_of_length_le (by omega)];exact hx)
 have hzero:WR (Xd xs)=0:=by rw[e2];exact TZ YU
 have inv:=inv YU zS
 simp -implicitDefEqProofs only[go_sem,↓reduceIte,f18,f19,YF]
 refine (ny T g2 Rt (OI g2)).use ?_
 rintro _ g3 ⟨wb,ZnG,o3,oK,rfl,K3,A3⟩
 unfold Zn
 have bh2:Zf h.size h g2:=b1.trans (b2.mono (by omega))
 have kh2:Kp WO Rt h Rt g2:=Kp.Lf (OI h) bh2 _
 obtain⟨vz,tK⟩:=Zy ((Xd xs).map Raw.ac)
 have ZeL:vz.length=xs.length:=by rw[tK,List.length_map,rl]
 have inv:∀j,j≤xs.length→WOk (WK (vz.take j)):=fun j hj=>by
  have:=inv j hj
  rw[tK,←List.map_take];exact this
 simp -implicitDefEqProofs only[go_sem,↓reduceIte,f0,f2]
 refine VS.ZV (fun F g=>F 2=.pointer (some ⟨h.size,0,none⟩)∧F 7=.pointer (some ⟨wb,0,none⟩)∧F 31=.slice p xs.length c∧F 32=.int .i64 xs.length∧∃(j:Nat) (o':Ow) (Z4:Nat→Nat) (Xl:WA),j≤xs.length∧F 33=.int .i64 j∧Kp WO Rt g2 o' g∧X2 o' g wb Z4 Xl (WK (vz.take j)))
  (fun F _=>xs.length-(vi (F 33)).toNat) rfl ⟨f2,rfl,rfl,rfl,0,o3,ZnG,oK,Nat.zero_le _,rfl,K3,A3⟩ ?_
 clear f0 f2 f17 f18 f19 K3 A3
 rintro F4 g4 ⟨f2,f7,f31,f32,j,o4,ZnH,bC,hj,f33,K4,A4⟩
 by_cases ZA:j<xs.length
 ·have ZI:(j:Int)<xs.length:=by omega
  obtain⟨bb,oo,rfl,UX,PO⟩:=YL (by intro e;rw[e]at ZA;simp at ZA)
  obtain⟨x,Rd⟩:=Zy (xs[j])
  have vy:x∈xs:=by rw[Rd];exact List.getElem_mem ZA
  have xK:x.1.err=0:=YU x.1 (by unfold Xd;exact List.mem_map_of_mem vy)
  obtain⟨q1,q2,q3,q4,q5⟩:=AE xK
  have Kh4:Kp WO Rt h o4 g4:=kh2.trans K4
  have iv:=(hx x vy).Zd Kh4
  obtain⟨pd,cd,PZ⟩:=iv.1.isSlice
  have r1:rd g4 ⟨bb,oo+j*5,none⟩ 5=some (X3 x):=by rw[JH (T1 Kh4) UX,Rd];exact PO j ZA
  unfold X3 WQ at r1
  rw[PZ]at r1 iv
  obtain⟨g5,m7⟩:=Zy (g4.push (.cells (WQ x.1.k x.1.n x.1.a x.1.b (.slice pd x.1.data.length cd)).toArray 36):Hp)
  have e5:=m7.symm
  have k5:Kp Qe o4 g4 o4 g5:=by rw[m7];exact ZW K4.ZU _
  have y5:g5[g4.size]? = some (.cells (WQ x.1.k x.1.n x.1.a x.1.b (.slice pd x.1.data.length cd)).toArray 36):=by rw[m7];exact Zb
  have r5:rd g5 ⟨g4.size,0,none⟩ 5=some (WQ x.1.k x.1.n x.1.a x.1.b (.slice pd x.1.data.length cd)):=Zo y5 rfl
  unfold WQ at e5 r5
  have en:((x.1.n.toNat:Nat):Int)=x.1.n:=by omega
  have ea:((x.1.a.toNat:Nat):Int)=x.1.a:=by omega
  have cd2:=zK T g5 o4 wb ZnH bC (WK (vz.take j)) x.1.ac (.slice pd x.1.data.length cd) k5.ZU (A4.still k5) (inv j hj) q1 (by unfold Raw.ac;simp only;omega) (iv.Zd k5) (by unfold Raw.ac;simp only;omega) ((tb.Zd Kh4).Zd k5)
  unfold Zn WQ Raw.ac at cd2
  simp only at cd2
  rw[en,ea]at cd2
  have YE:WK (vz.take (j+1))=act (WK (vz.take j)) ⟨x.1.k,x.1.n.toNat,x.1.a.toNat,x.1.b,x.1.data⟩:=by
   rw[Ye _ j (by rw[ZeL];exact ZA)]
   unfold WK
   rw[List.foldl_append]
   have:vz[j]'(by rw[ZeL];exact ZA)=⟨x.1.k,x.1.n.toNat,x.1.a.toNat,x.1.b,x.1.data⟩:=by
    simp only[tK,List.getElem_map,GO j ZA,←Rd];rfl
   rw[this];rfl
  simp -implicitDefEqProofs only[go_sem,↓reduceIte,f2,f7,f31,f32,f33,ZI,r1,e5,r5]
  refine cd2.use ?_
  rintro v' g6 ⟨o6,WA6,ZnJ,k6,A6⟩
  simp -implicitDefEqProofs only[go_sem,↓reduceIte,f33]
  unfold Y6
  refine⟨⟨f2,f7,f31,f32,j+1,o6,ZnJ,WA6,ZA,rfl,(K4.trans (Ya k5)).trans k6,by rw[YE];exact A6⟩,?_⟩
  simp only[vi,Zj,↓reduceIte,f33];omega
 have YF:¬(j:Int)<xs.length:=by omega
 obtain rfl:j=xs.length:=by omega
 rw[List.take_of_length_le (by omega)]at A4
 have okW:=inv xs.length (Nat.le_refl _)
 rw[List.take_of_length_le (by omega)]at okW
 obtain⟨w,hw⟩:=Zy (WK vz)
 rw[←hw]at A4 okW
 have U4:=YQ A4.wd.ZD.2
 have U4o:=U4.out
 have ZnK:=Za A4.wd.ZD.2
 obtain⟨pf,cf,hpf,_⟩:=Vs A4.wd.Zl
 obtain⟨pt,ct,ie,_⟩:=A4.wd.told.isSlice
 obtain⟨tv,htv⟩:=Zy (bC.told)
 rw[ie]at U4o htv
 obtain⟨kb,nW⟩:=Zy (g4.size)
 obtain⟨g5,m7⟩:=Zy (g4.push (.cells [.int .i64 0,.bool false,.bool false,.bool false,.bool false,.bool false,.slice none 0 0,.int .i64 (w.bad 0),.int .i64 (w.bad 1),.int .i64 (w.bad 2),.int .i64 (w.bad 3),.int .i64 (w.bad 4),.slice pt w.told.length ct].toArray 33):Hp)
 have e5:=m7.symm
 have y5:g5[kb]? = some (.cells [.int .i64 0,.bool false,.bool false,.bool false,.bool false,.bool false,.slice none 0 0,.int .i64 (w.bad 0),.int .i64 (w.bad 1),.int .i64 (w.bad 2),.int .i64 (w.bad 3),.int .i64 (w.bad 4),.slice pt w.told.length ct].toArray 33):=by rw[m7,nW];exact Zb
 have k5:Kp Qe o4 g4 o4 g5:=by rw[m7];exact ZW K4.ZU _
 obtain⟨g6,PQ⟩:=Zy (g5.setIfInBounds kb (.cells (Du w 0 (.slice none 0 0) (.slice pt w.told.length ct)).toArray 33):Hp)
 have w6:Jg g5 ⟨kb,0,none⟩ (.int .i64 w.Zl.length)=some g6:=by rw[Yp y5 0 _,PQ];rfl
 have l5:=Za y5
 obtain⟨o6,ho6⟩:=Zy (Ji o4 kb (.log 101))
 have k6:Kp AH o4 g4 o6 g6:=by rw[ho6,PQ];exact ((ZC k5).Tx (by omega) l5 (.inr rfl)).CX (by omega) _
 have B6:QA o6 (.log 101) g6 kb (.cells (Du w 0 (.slice none 0 0) (.slice pt w.told.length ct)).toArray 33):=⟨by rw[ho6];exact YR,by rw[PQ];exact Zt y5⟩
 have A5:=A4.still k5
 have U5:=YQ A5.wd.ZD.2
 have U5f:=U5.Zl
 rw[hpf]at U5f
 have Ar:=Za A5.wd.ZD.2
 have nof:∀t,AH t→t.of≠none:=by rintro t (rfl|rfl) e<;>cases e
 have non:∀t (i:Nat),i<5→AH t→t.of≠some i:=by
  rintro t i hi (rfl|rfl) e
  ·have:=Option.some.inj e;omega
  ·have:=Option.some.inj e;omega
 have W6:=A4.wd.Zd k6 nof
 obtain⟨bn,ZnM,cn,hn,jA,yj,zT⟩:=UT W6
 have U6n:=(YQ W6.ZD.2).nodes
 rw[hn]at U6n
 have ZeM:=Za W6.ZD.2
 simp -implicitDefEqProofs only[go_sem,↓reduceIte,f32,f33,YF,f2,f7,U4o,ZnK,e5]
 rw[←nW]
 simp -implicitDefEqProofs only[go_sem,↓reduceIte,f7,U5f,Ar,w6,l5,U6n,ZeM]
 refine VS.ZV (fun F g=>F 2=.pointer (some ⟨h.size,0,none⟩)∧F 10=.pointer (some ⟨kb,0,none⟩)∧F 54=.slice (some ⟨bn,ZnM,none⟩) 5 cn∧F 55=.int .i64 5∧∃(j:Nat) (o':Ow) (lv:Value) (vs:List Value),j≤5∧F 56=.int .i64 j∧Kp AH o4 g4 o' g∧QA o' (.log 101) g kb (.cells (Du w j lv (.slice pt w.told.length ct)).toArray 33) ∧
   Ys o' (.log 100) 37 1 g lv j vs∧DN (fun v l=>Im o' 5 g v l.length (Zu Qc.C l)∧∀b,ZL v=some b→g4.size≤b) vs (Kk w j))
  (fun F _=>5-(vi (F 56)).toNat) rfl ⟨f2,rfl,rfl,rfl,0,o6,.slice none 0 0,[],by omega,rfl,k6,B6,Ys.nil _ _ _ _ _,.nil⟩ ?_
 clear f2 f7 f31 f32 f33 B6 k6 w6 l5 U6n ZeM W6 zT yj ho6 PQ y5 e5
 rintro F7 g7 ⟨f2,f10,f54,f55,j,o7,lv,vs,hj,f56,K7,B7,O7,L7⟩
 have W7:=A4.wd.Zd K7 nof
 by_cases ZA:j<5
 ·have ZI:(j:Int)<5:=by omega
  obtain⟨na,N4j⟩:=A4.nd j ZA
  have N7:=N4j.Zd K7 (fun t q=>non t j ZA q)
  obtain⟨bn',ZsF,cn',SD,Zzq,yj,zT⟩:=UT W7
  rw[hn]at SD
  simp only[Value.slice.injEq,Option.some.injEq,Addr.mk.injEq,true_and,and_true]at SD
  obtain⟨⟨rfl,rfl⟩,rfl⟩:=SD
  have ri:=zT j ZA
  unfold Zn at ri
  have P7:=Zx N7.ZD.2 N7.pt.store.len
  have P7u:=P7.up
  have zm:=Za N7.ZD.2
  have l7:=Za B7.2
  obtain⟨g8,PC⟩:=Zy (g7.setIfInBounds kb (.cells (Du w (j+1) lv (.slice pt w.told.length ct)).toArray 33):Hp)
  have w8:Jg g7 ⟨kb,1+j,none⟩ (.bool (w.nodes j).up)=some g8:=by
   rw[Yp B7.2,if_pos ⟨by rw[bL];omega,rfl⟩,zR w j lv _ ZA,PC]
  have k8:Kp AH o7 g7 o7 g8:=by rw[PC];exact (Kp.refl K7.ZU AH).set B7.1 (.inr rfl) _
  have k8':Kp (fun t=>t=.log 101) o7 g7 o7 g8:=by rw[PC];exact (Kp.refl K7.ZU (fun t=>t=.log 101)).set B7.1 rfl _
  have B8:QA o7 (.log 101) g8 kb (.cells (Du w (j+1) lv (.slice pt w.told.length ct)).toArray 33):=⟨B7.1,by rw[PC];exact Zt B7.2⟩
  have O8:=O7.Zd k8' (by intro e;cases e)
  have L8:=Kl L7 (R':=fun v l=>Im o7 5 g8 v l.length (Zu Qc.C l)∧∀b,ZL v=some b→g4.size≤b) (fun v l q=>⟨q.1.Zd k8,q.2⟩)
  have K8:=K7.trans k8
  have N8:=N7.Zd k8 (fun t q=>non t j ZA q)
  have P8l:=(Zx N8.ZD.2 N8.pt.store.len).log
  obtain⟨pl,cl,ME,_⟩:=Ys.isSlice N8.pt.log
  have ME:na.log=.slice pl (w.nodes j).log.length cl:=ME
  rw[ME]at P8l
  have Tl:=N8.pt.log.ts
  rw[ME]at Tl
  have sQ:=Za N8.ZD.2
  have l8:=Za B8.2
  obtain⟨plv,clv,rfl,_⟩:=O8.isSlice
  have r8:hc g8 ⟨kb,6,none⟩=some (.slice plv j clv):=Zg B8.2
  have cc:=AD T g8 (.slice pl (w.nodes j).log.length cl) (w.nodes j).log Tl (by have:=okW.log j ZA;omega)
  simp -implicitDefEqProofs only[go_sem,↓reduceIte,f2,f10,f54,f55,f56,ZI,ri,P7u,zm,w8,l7,yj]
  refine VS.z (g8.size) [8,10] (.p 0 (.q 1 (.p 2 (.p 3 (.p 4 (.q 5 (.s 6 (.s 7 (.w 8 (.p 9 (.w 10 .nil))))))))))) mixed (by kernel_rfl) ?_
  simp -implicitDefEqProofs only[go_sem,↓reduceIte,f2,f10,r8,P8l,sQ,l8]
  refine cc.use ?_
  rintro v9 g9 ⟨o9,b9⟩
  have k9:Kp Qe o7 g8 o7 g9:=ZB K8.ZU b9
  have im9:Im o7 5 g9 v9 (w.nodes j).log.length (Zu Qc.C (w.nodes j).log):=Im.QK o9.own (fun b hb=>K8.ZU b hb)
  have lo9:∀b,ZL v9=some b→g4.size≤b:=fun b hb=>Nat.le_trans K8.size (o9.own.ZD b hb)
  obtain⟨p9,c9,rfl⟩:=im9.isSlice
  obtain⟨zb,tL⟩:=Zy (g9.push (.cells [.slice p9 (w.nodes j).log.length c9].toArray 37):Hp)
  have e10:=tL.symm
  have fF:Kp Qe o7 g9 o7 zb:=by rw[tL];exact ZW k9.ZU _
  have K10:Kp AH o4 g4 o7 zb:=(K8.trans (ZC k9)).trans (ZC fF)
  have B10:=(B8.Zd k9 (fun q=>q)).Zd fF (fun q=>q)
  have O10:=(O8.Zd k9 (fun q=>q)).Zd fF (fun q=>q)
  have ZnO:=im9.Zd fF
  have x10:zb[g9.size]? = some (.cells [.slice p9 (w.nodes j).log.length c9].toArray 37):=by rw[tL];exact Zb
  have src:Sl 1 zb (.slice (some ⟨g9.size,0,none⟩) 1 1) 1 [.slice p9 (w.nodes j).log.length c9]:=⟨_,1,rfl,rfl,fun _=>⟨g9.size,0,rfl,fun i hi=>by
   rw[Zg x10,Yi,Nat.zero_add];exact List.getElem?_eq_getElem hi⟩⟩
  simp -implicitDefEqProofs only[go_sem,↓reduceIte,b9,e10]
  refine⟨by rw[tL];exact b9.Yf b9.size _,?_⟩
  refine XQ (E:=37) (n:=1) (bytes:=24) (k:=1) Zcj Tryz.underlying29 Zi8 Zja rfl Zi9 O10 K10.ZU src rfl (by omega) (by omega) ?_
  intro v11 o11 oI O11 hO _
  have hO:Kp (fun u=>u=.log 100) o7 zb o11 oI:=hO
  obtain⟨p11,c11,rfl,_⟩:=O11.isSlice
  have B11:=B10.Zd hO (by intro e;cases e)
  have l11:=Za B11.2
  obtain⟨g12,Ec⟩:=Zy (oI.setIfInBounds kb (.cells (Du w (j+1) (.slice p11 (j+1) c11) (.slice pt w.told.length ct)).toArray 33):Hp)
  have w12:Jg oI ⟨kb,6,none⟩ (.slice p11 (j+1) c11)=some g12:=by
   rw[Yp B11.2,if_pos ⟨by rw[bL];omega,rfl⟩,tI,Ec]
  have rW:Kp (fun t=>t=.log 101) o11 oI o11 g12:=by rw[Ec];exact (Kp.refl hO.ZU (fun t=>t=.log 101)).set B11.1 rfl _
  have B12:QA o11 (.log 101) g12 kb (.cells (Du w (j+1) (.slice p11 (j+1) c11) (.slice pt w.told.length ct)).toArray 33):=⟨B11.1,by rw[Ec];exact Zt B11.2⟩
  simp -implicitDefEqProofs only[go_sem,↓reduceIte,f10,w12,l11,f56]
  unfold Y6
  refine⟨⟨f2,f10,f54,f55,j+1,o11,.slice p11 (j+1) c11,vs++[.slice p9 (w.nodes j).log.length c9],ZA,rfl,(K10.trans (hO.mono fun t q=>.inl q)).trans (rW.mono fun t q=>.inr q),B12,O11.Zd rW (by intro e;cases e),?_⟩,?_⟩
  ·rw[Dv]
   refine Df (Kl L8 fun v l q=>⟨((((q.1.Zd k9).Zd fF).Zd hO).Zd rW),q.2⟩) ⟨(ZnO.Zd hO).Zd rW,lo9⟩
  ·simp only[vi,Zj,↓reduceIte,f56];omega
 have YF:¬(j:Int)<5:=by omega
 obtain rfl:j=5:=by omega
 have bx7:ZK o7 g7 h.size (.cells ij.toArray 33):=ZK.Zd (ZK.Zd (o:=Rt) ⟨rfl,rz g2 b2⟩ K4) K7
 have rk:rd g7 ⟨kb,0,none⟩ 13=some (Du w 5 lv (.slice pt w.told.length ct)):=Zo B7.2 rfl
 obtain⟨g8,PC⟩:=Zy (g7.setIfInBounds h.size (.cells (Du w 5 lv (.slice pt w.told.length ct)).toArray 33):Hp)
 have w8:wr g7 ⟨h.size,0,none⟩ (Du w 5 lv (.slice pt w.told.length ct))=some g8:=by
  obtain⟨plv,clv,rfl,_⟩:=O7.isSlice
  rw[ZP bx7.2 0 _,PC];rfl
 have l7:=Za bx7.2
 have r8:rd g8 ⟨h.size,0,none⟩ 13=some (Du w 5 lv (.slice pt w.told.length ct)):=Zo (by rw[PC];exact Zt bx7.2) rfl
 have K7a:Kp WO Rt h o7 g7:=(kh2.trans K4).trans (Ya K7)
 have vl:vs.length=5:=by have:=O7.length;omega
 have bound:h.size<g4.size:=Nat.lt_of_lt_of_le (Za (rz g2 b2)) K4.size
 rw[show Du w 5 lv (.slice pt w.told.length ct)=AF w lv (.slice pt w.told.length ct) from rfl]at rk w8 r8
 unfold AF at rk w8 r8
 simp -implicitDefEqProofs only[go_sem,↓reduceIte,f55,f56,YF,f2,f10,rk,w8,l7,r8]
 refine⟨by rw[PC];exact (T1 K7a).Zk (Nat.le_refl _) _,?_⟩
 unfold Hk
 rw[hzero,if_pos rfl,←tK,←hw]
 refine⟨_,lv,.slice pt w.told.length ct,vs,rfl,fun G hG=>?_⟩
 have wt:=W7.told
 rw[ie]at wt
 have Yq:∀b,b<g7.size→b≠h.size→G[b]? = g8[b]? → G[b]? = g7[b]?:=fun b _ h2 e=>by rw[e,PC,Array.getElem?_setIfInBounds,if_neg (fun e=>h2 e.symm)]
 have hs8:g8.size=g7.size:=by rw[PC];simp
 have own:∀t,∀b,o7 b=some t→b<g7.size→G[b]? = g7[b]?:=fun t b q1 q2=>Yq b q2 (fun e=>by rw[e,bx7.1]at q1;cases q1) (hG b (Dw K7a q1) (by omega))
 refine⟨rfl,⟨by rw[gj,vl];exact (bM O7 (own _)).sl⟩,?_,⟨(bM wt (own _)).sl⟩⟩
 refine Kl (k:=Kk w 5) L7 fun v l q=>⟨ZeK q.1 fun b hb ZA=>?_⟩
 have:=q.2 b hb
 exact Yq b ZA (by omega) (hG b (by omega) (by omega))
structure CmI (C:List Cm) (w v:Wd) (m:Nat):Prop where
 nd:∀i,i<5→Qh C i (v.nodes i)
 Az:∀i,i<5→∀l∈(v.nodes i).inbox,Qf C l
 Hj:v.Zl=w.Zl
 sum:Rp (fun i=>(v.nodes i).inbox.length)≤Rp (fun i=>(w.nodes i).inbox.length)+m
 wait:Rp (fun i=>(v.nodes i).waiting.length)=Rp (fun i=>(w.nodes i).waiting.length)
 told:v.told=w.told
 bad:v.bad=w.bad
theorem AI {C:List Cm} {w:Wd} {l:YY} (h1:∀i,i<5→Qh C i (w.nodes i)) (h2:∀i,i<5→∀l∈(w.nodes i).inbox,Qf C l) (hl:Qf C l):CmI C w (QV w l) 1:=by
 have vw:l.to.toNat<5:=by have:=hl.to;omega
 unfold QV
 split
 ·refine⟨fun i hi=>?_,fun i hi x hx=>?_,rfl,?_,?_,rfl,rfl⟩
  ·unfold Wd.set
   by_cases e:i=l.to.toNat
   ·simp only[if_pos e]
    rw[e]
    exact { h1 _ vw with }
   ·simp only[if_neg e];exact h1 i hi
  ·unfold Wd.set at hx
   by_cases e:i=l.to.toNat
   ·simp only[if_pos e]at hx
    rcases List.mem_append.1 hx with hx|hx
    ·exact h2 _ vw x hx
    ·have:x=l:=by simpa using hx
     rw[this];exact hl
   ·simp only[if_neg e]at hx;exact h2 i hi x hx
  ·have:=PU w l.to.toNat { w.nodes l.to.toNat with inbox:=(w.nodes l.to.toNat).inbox++[l] } (fun n=>n.inbox.length) vw
   unfold Wd.set
   simp only[List.length_append,List.length_singleton]at this ⊢
   omega
  ·have:=PU w l.to.toNat { w.nodes l.to.toNat with inbox:=(w.nodes l.to.toNat).inbox++[l] } (fun n=>n.waiting.length) vw
   unfold Wd.set
   simp only at this ⊢
   omega
 ·exact⟨h1,h2,rfl,by omega,rfl,rfl,rfl⟩
theorem tM {C:List Cm}:∀(ls:List YY) (w:Wd),(∀i,i<5→Qh C i (w.nodes i))→(∀i,i<5→∀l∈(w.nodes i).inbox,Qf C l)→(∀l∈ls,Qf C l)→CmI C w (ls.foldl QV w) ls.length:=by
 intro ls
 induction ls with
 | nil=>intro w h1 h2 _;exact⟨h1,h2,rfl,by simp,rfl,rfl,rfl⟩
 | cons l ls ih=>
  intro w h1 h2 h3
  have a:=AI h1 h2 (h3 l (by simp))
  have b:=ih (QV w l) a.nd a.Az (fun x hx=>h3 x (by simp[hx]))
  refine⟨b.nd,b.Az,by rw[List.foldl_cons,b.Hj,a.Hj],?_,by rw[List.foldl_cons,b.wait,a.wait],by rw[List.foldl_cons,b.told,a.told],by rw[List.foldl_cons,b.bad,a.bad]⟩
  have h4:=b.sum
  have h5:=a.sum
  simp only[List.foldl_cons,List.length_cons]
  omega
theorem WI.tO {C:List Cm} {k:Nat} {w u v:Wd} {m:Nat} (h:WI C k w) (c:CmI C u v m) (hu1:u.nodes=w.nodes) (hu2:∀l∈u.Zl,l∈w.Zl) (hu3:u.told=w.told) (hu4:u.bad=w.bad) (hm:u.Zl.length+m≤w.Zl.length+1):WI C (k+1) v:=by
 have hs:=c.sum
 have hw:=c.wait
 rw[hu1]at hs hw
 have h1:=h.room
 have h2:=h.wait
 refine⟨c.nd,c.Az,fun l hl=>h.Hj l (hu2 l (by rw[←c.Hj];exact hl)),?_,?_,fun i=>by rw[c.bad,hu4];have:=h.bad i;omega⟩
 ·rw[c.Hj];omega
 ·rw[c.told,hu3,hw];omega
theorem zU {C:List Cm} {k:Nat} {w:Wd} (h:WI C k w) (at':Nat) (comes stays:Bool):WI C (k+1) (pick w at' comes stays):=by
 unfold pick
 split
 ·exact h.more
 ·rename_i l hl
  have ic:l∈w.Zl:=List.mem_of_getElem? hl
  have hll:=h.Hj l ic
  have el:(w.Zl.eraseIdx (at'%w.Zl.length)).length+1≤w.Zl.length+1:=by
   have:=List.length_eraseIdx_le w.Zl (at'%w.Zl.length);omega
  have el2:(w.Zl.eraseIdx (at'%w.Zl.length)).length≤w.Zl.length:=by omega
  cases comes with
  | true=>
   cases stays with
   | true=>exact h.tO (u:=w) (AI h.nd h.Az hll) rfl (fun l q=>q) rfl rfl (by omega)
   | false=>exact h.tO (u:={ w with Zl:=w.Zl.eraseIdx (at'%w.Zl.length) }) (AI h.nd h.Az hll) rfl (fun l q=>List.mem_of_mem_eraseIdx q) rfl rfl el
  | false=>
   cases stays with
   | true=>exact h.more
   | false=>exact h.tO (u:={ w with Zl:=w.Zl.eraseIdx (at'%w.Zl.length) }) (m:=0) ⟨h.nd,h.Az,rfl,by simp,rfl,rfl,rfl⟩ rfl (fun l q=>List.mem_of_mem_eraseIdx q) rfl rfl (by simp only;omega)
def NY (rc:List Nat):Cm:=⟨Xj ((JF rc).drop 22) 0,Xj ((JF rc).drop 22) 1,Xj ((JF rc).drop 22) 2,Xj ((JF rc).drop 22) 3,Xj ((JF rc).drop 22) 4⟩
theorem nC (n:Nd) (x:Cm):(PG n x).waiting.length≤n.waiting.length+1:=by
 unfold PG;split
 ·omega
 ·simp
theorem nE {C:List Cm} {k:Nat} {w:Wd} (h:WI C k w) {i:Nat} (hi:i<5) {rc:List Nat} (hc:NY rc∈C):WI C (k+1) (VQ w i rc):=by
 unfold VQ
 split
 ·split
  ·refine⟨h.nd,h.Az,h.Hj,Nat.le_trans h.room (Nat.mul_le_mul_right _ (Nat.le_succ k)),Nat.le_trans h.wait (Nat.le_succ k),fun j=>?_⟩
   have h1:=h.bad j
   have h2:=h.bad i
   simp only
   split<;>omega
  ·rename_i q
   have e:Tb rc (w.nodes i).log.length=NY rc:=by
    unfold Tb NY
    rw[if_pos (by simpa using q)]
   rw[e]
   split
   ·have hw:=h.wait
    refine⟨h.nd,h.Az,h.Hj,Nat.le_trans h.room (Nat.mul_le_mul_right _ (Nat.le_succ k)),by simp only[List.length_append,List.length_singleton];omega,fun j=>by have:=h.bad j;simp only;omega⟩
   ·rw[Ws]
    have ha:=vx (h.nd i hi) hc
    have s1:(add (w.nodes i) (NY rc)).inbox=(w.nodes i).inbox:=by unfold add;split<;>rfl
    have s2:(PG (add (w.nodes i) (NY rc)) (NY rc)).inbox=(w.nodes i).inbox:=by unfold PG;split<;>exact s1
    have s3:=nC (add (w.nodes i) (NY rc)) (NY rc)
    have s4:=(add_same (w.nodes i) (NY rc)).1
    refine h.out hi ?_ (fun l hl=>by cases hl) (by simp only[s2];exact h.Az i hi) (by simp only[s2];simp) (by simp only[List.length_nil];rw[s4]at s3;omega)
    unfold PG
    simp only
    split
    ·exact ha
    ·exact { ha with }
 ·exact h.more
theorem ZeP {C:List Cm} (hC:C.length≤100000) {k:Nat} {w:Wd} (h:WI C k w) (a:Ac) (hi:a.node<5) (hc:NY a.data∈C):WI C (k+1) (act w a):=by
 have hn:=h.nd a.node hi
 have hb:=h.Az a.node hi
 unfold act
 split
 ·exact nE h hi hc
 split
 ·obtain⟨l1,l2,l3⟩:=zI hn
  rw[Ws]
  exact h.out hi l1 (fun l hl=>by cases hl) (by simp only[l2];exact hb) (by simp only[l2];simp) (by simp only[l3];simp)
 split
 ·obtain⟨s1,s2,s3,s4,s5⟩:=zF hi hC hn hb
  exact h.out hi s1 s2 s3 (by omega) (by omega)
 split
 ·exact zU h _ _ _
 split
 ·have c:=tM w.Zl { w with Zl:=[] } h.nd h.Az h.Hj
  exact h.tO c rfl (fun l hl=>by cases hl) rfl rfl (by simp)
 split
 ·obtain⟨c1,c2⟩:=gh hn a.Zd
  rw[Ws]
  rcases c2 with⟨c2,c3⟩|c2
  ·exact h.out hi c1 (fun l hl=>by cases hl) (by simp only[c2];intro l hl;cases hl) (by simp only[c2];simp) (by simp only[c3];simp)
  ·exact h.out hi c1 (fun l hl=>by cases hl) (by simp only[c2];exact hb) (by simp only[c2];simp) (by simp only[c2];simp)
 ·obtain⟨c1,c2⟩:=gi hn
  rw[Ws]
  rcases c2 with⟨c2,c3⟩|c2
  ·exact h.out hi c1 (fun l hl=>by cases hl) (by simp only[c2];intro l hl;cases hl) (by simp only[c2];simp) (by simp only[c3];simp)
  ·exact h.out hi c1 (fun l hl=>by cases hl) (by simp only[c2];exact hb) (by simp only[c2];simp) (by simp only[c2];simp)
theorem nF (C:List Cm):WI C 0 QJ:=by
 refine⟨fun i hi=>Ms (by simp) Hg.zero,(fun i hi l hl=>by cases hl),(fun l hl=>by cases hl),by simp[QJ,Rp,blank],by simp[QJ,Rp,blank],fun i=>by simp[QJ]⟩
theorem zW {C:List Cm} (hC:C.length≤100000):∀(l:List Ac) (k:Nat) (w:Wd),WI C k w→(∀a∈l,a.node<5∧NY a.data∈C)→WI C (k+l.length) (l.foldl act w):=by
 intro l
 induction l with
 | nil=>intro k w h _;exact h
 | cons a l ih=>
  intro k w h hl
  have:=ih (k+1) (act w a) (ZeP hC h a (hl a (by simp)).1 (hl a (by simp)).2) (fun x hx=>hl x (by simp[hx]))
  rw[List.length_cons,show k+(l.length+1)=k+1+l.length by omega]
  exact this
theorem tP (xs:List (Raw × Value)) (hz:∀x∈Xd xs,x.err=0) (hl:xs.length≤100000) (j:Nat) (hj:j≤xs.length):WOk (WK (((Xd xs).take j).map Raw.ac)):=by
 obtain⟨C,hC⟩:=Zy ((Xd xs).map fun x=>NY x.data)
 have rl:(Xd xs).length=xs.length:=by unfold Xd;simp
 have yP:C.length≤100000:=by rw[hC,List.length_map,rl];exact hl
 have:=zW yP (((Xd xs).take j).map Raw.ac) 0 QJ (nF C) (fun a ha=>by
  obtain⟨x,hx,rfl⟩:=List.mem_map.1 ha
  have hx:=List.mem_of_mem_take hx
  obtain⟨_,h2,_,_,_⟩:=AE (hz x hx)
  refine⟨by unfold Raw.ac;simp only;omega,?_⟩
  rw[hC]
  exact List.mem_map.2 ⟨x,hx,rfl⟩)
 refine this.ok yP ?_
 rw[List.length_map,List.length_take]
 omega
theorem tQ (T:World) (h:Hp) (v:Value) (xs:List (Raw × Value)) (hv:Ts X3 5 h v xs) (hx:∀x∈xs,VT Rt h x.2 x.1.data) (tb:DT Rt h) (BH:xs.length≤4611686018427387904) :
  Zc Tryz.prog T 20 #[v] h fun v' h'=>Zf h.size h h'∧Hk h.size h' v' (Xd xs):=
 tJ T h v xs hv hx tb BH fun h1 h2 j hj=>tP xs h1 h2 j hj
def JG (n m:Int):Int:=(if n<0 then 0-(n+1) else n)%m
theorem J8 (n:Int) {m:Int} (h:0<m):0≤JG n m∧JG n m<m:=⟨Int.emod_nonneg _ (by omega),Int.emod_lt_of_pos _ h⟩
def i64 (n:Int):Prop:=-9223372036854775808≤n∧n<9223372036854775808
theorem UA (T:World) (h:Hp) (n m:Int) (hn:i64 n) (hm:1≤m) (qS:m≤1000000) :
  Zc Tryz.prog T 27 #[.int .i64 n,.int .i64 m] h fun v' h'=>v'=.int .i64 (JG n m)∧h'=h:=by
 unfold i64 at hn
 refine Zc.Zh (args:=[_,_]) Tryz.func27 rfl rfl rfl rfl ?_
 have hm0:¬m=0:=by omega
 by_cases q:n<0
 ·have e:JG n m=(0-(n+1)).tmod m:=by unfold JG;rw[if_pos q,Int.tmod_eq_emod_of_nonneg (by omega)]
  rw[e]
  simp -implicitDefEqProofs only[go_sem,↓reduceIte,q,hm0]
 ·have e:JG n m=n.tmod m:=by unfold JG;rw[if_neg q,Int.tmod_eq_emod_of_nonneg (by omega)]
  rw[e]
  simp -implicitDefEqProofs only[go_sem,↓reduceIte,q,hm0]
theorem Xo (T:World) (h:Hp) (n m:Int) (hn:i64 n) (hm:1≤m) (qS:m≤1000000) :
  Zc Tryz.prog T 16 #[.int .i64 n,.int .i64 m] h fun v' h'=>v'=.int .i64 (JG n m)∧h'=h:=by
 refine Zc.Zh (args:=[_,_]) Tryz.func16 rfl rfl rfl rfl ?_
 simp -implicitDefEqProofs only[go_sem,↓reduceIte]
 refine (UA T h n m hn hm qS).pure ?_
 simp -implicitDefEqProofs only[go_sem,↓reduceIte]
def ZeQ (k c s n v:Int):List Value:=[.int .i64 k,.int .i64 c,.int .i64 s,.int .i64 n,.int .i64 v]
def cmW (k c s n v:Int):Cm:=⟨1+(JG k 5).tdiv 2,JG c 4,JG s 6,JG n 4,if 1+(JG k 5).tdiv 2=1 then JG v 1000 else 0⟩
theorem Dx (T:World) (h:Hp) (k c s n v:Int) (hk:i64 k) (hc:i64 c) (hs:i64 s) (hn:i64 n) (hv:i64 v) :
  Zc Tryz.prog T 51 #[.agg (ZeQ k c s n v).toArray] h fun v' h'=>v'=.agg (cmW k c s n v).C.toArray∧Zf h.size h h':=by
 refine Zc.Zh (args:=[_]) Tryz.func51 rfl rfl rfl rfl ?_
 unfold ZeQ
 simp -implicitDefEqProofs only[go_sem,↓reduceIte]
 refine VS.w (h.size+2) [16] (.q 0 (.q 1 (.q 2 (.q 3 (.q 4 (.q 5 (.q 6 (.q 7 (.q 8 (.q 9 (.q 10 (.q 11 (.q 12 (.q 13 (.q 14 (.s 15 (.w 16 .nil))))))))))))))))) mixed (by kernel_rfl) ?_
 simp -implicitDefEqProofs only[go_sem,↓reduceIte]
 refine Jx (fun h=>UA T h k 5 hk (by omega) (by omega)) ?_
 simp -implicitDefEqProofs only[go_sem,↓reduceIte]
 refine Jx (fun h=>UA T h c 4 hc (by omega) (by omega)) ?_
 simp -implicitDefEqProofs only[go_sem,↓reduceIte]
 refine Jx (fun h=>UA T h s 6 hs (by omega) (by omega)) ?_
 simp -implicitDefEqProofs only[go_sem,↓reduceIte]
 refine Jx (fun h=>UA T h n 4 hn (by omega) (by omega)) ?_
 have r1:=J8 k (m:=5) (by omega)
 generalize Oz:JG k 5=K at *
 have r2:0≤K.tdiv 2∧K.tdiv 2≤2:=by rw[Int.tdiv_eq_ediv_of_nonneg r1.1];omega
 unfold cmW
 rw[Oz]
 generalize K.tdiv 2=J at *
 by_cases q:1+J=1
 ·simp -implicitDefEqProofs only[go_sem,↓reduceIte,q]
  refine⟨Zf.push (by simp) _,(UA T _ v 1000 hv (by omega) (by omega)).pure ?_⟩
  simp -implicitDefEqProofs only[go_sem,↓reduceIte,q]
  exact⟨rfl,(((Zf.refl _ _).add _).add _).add _⟩
 ·simp -implicitDefEqProofs only[go_sem,↓reduceIte,q]
  exact⟨Zf.push (by simp) _,rfl,(((Zf.refl _ _).add _).add _).add _⟩
structure Gr where
 k:Int
 a:Int
 b:Int
 c:Int
 d:Int
def Gr.C (g:Gr):List Value:=[.int .i64 g.k,.int .i64 g.a,.int .i64 g.b,.int .i64 g.c,.int .i64 g.d]
def Gr.ok (g:Gr):Prop:=(i64 g.k∧i64 g.a)∧i64 g.b∧i64 g.c∧i64 g.d
def DX (g:Gr):Cm:=cmW g.b g.c g.d g.a g.d
def gk (g:Gr):Int:=if JG g.d 17=16 then ((DX g).c+1).tmod 4 else (DX g).c
def gm (g:Gr):Int:=if JG g.d 17=15 then 0 else 7
def zX (n c r u:Int) (x:Cm):List Nat:=if WH n c r u x.k x.c x.s x.n x.v=0 then fh n c r u x.k x.c x.s x.n x.v else []
def Vu (g:Gr):List Nat:=zX (JG g.a 1000) (gk g) (gm g) 60 (DX g)
def T2 (g:Gr):List Nat:=if JG g.d 23=22∧30<(Vu g).length then (Vu g).take 30 else Vu g
theorem GP (T:World) (h:Hp) (g:Gr) (hg:g.ok) (tk:Tk h) :
  Zc Tryz.prog T 31 #[.agg g.C.toArray] h fun v' h'=>ZZ h.size 5 h' v' (T2 g)∧Zf h.size h h':=by
 obtain⟨⟨wk,wa⟩,wb,wc,wd⟩:=hg
 refine Zc.Zh (args:=[_]) Tryz.func31 rfl rfl rfl rfl ?_
 unfold Gr.C
 have c1:∀h:Hp,Zc Tryz.prog T 51 #[.agg #[.int .i64 g.b,.int .i64 g.c,.int .i64 g.d,.int .i64 g.a,.int .i64 g.d]] h fun v' h'=>v'=.agg (DX g).C.toArray∧Zf h.size h h':=fun h=>Dx T h g.b g.c g.d g.a g.d wb wc wd wa wd
 obtain⟨h0,XM⟩:=Zy (h.push (.cells g.C.toArray 69):Hp)
 have y0:h0[h.size]? = some (.cells g.C.toArray 69):=by rw[XM];exact Zb
 have b0:Zf h.size h h0:=by rw[XM];exact (Zf.refl _ _).add _
 have e0:=XM.symm
 unfold Gr.C at e0 y0
 have s0:h0.size=h.size+1:=by rw[XM];simp
 have l0:=Za y0
 have u1:hc h0 ⟨h.size,1,none⟩=some (.int .i64 g.a):=Zg y0
 have u2:hc h0 ⟨h.size,2,none⟩=some (.int .i64 g.b):=Zg y0
 have u3:hc h0 ⟨h.size,3,none⟩=some (.int .i64 g.c):=Zg y0
 have u4:hc h0 ⟨h.size,4,none⟩=some (.int .i64 g.d):=Zg y0
 simp -implicitDefEqProofs only[go_sem,↓reduceIte,e0,u1,u2,u3,u4,l0]
 refine (c1 h0).use ?_
 rintro _ h1 ⟨rfl,b1⟩
 have B1:Zf h.size h h1:=b0.trans (b1.mono b0.size)
 have s1:=b1.size
 have y1:=b1.get l0 y0
 obtain⟨X,hX⟩:=Zy (DX g)
 rw[←hX]
 have hXc:0≤X.c∧X.c<4:=by rw[hX];exact J8 g.c (by omega)
 obtain⟨h2,UY⟩:=Zy ((h1.push (.cells X.C.toArray 49)).push (.cells [.int .i64 X.c,.int .i64 7,.int .i64 60].toArray 79):Hp)
 have e2:=UY.symm
 unfold Qc.C Qb at e2 ⊢
 have y4:hc h2 ⟨h.size,4,none⟩=some (.int .i64 g.d):=by
  have:h2[h.size]? = some (.cells [.int .i64 g.k,.int .i64 g.a,.int .i64 g.b,.int .i64 g.c,.int .i64 g.d].toArray 69):=by
   rw[UY,Zq (by simp;omega),Zq (by omega)];exact y1
  exact Zg this
 simp -implicitDefEqProofs only[go_sem,↓reduceIte,e2,y4]
 refine (Xo T h2 g.d 17 wd (by omega) (by omega)).pure ?_
 have s2:h2.size=h1.size+2:=by rw[UY];simp
 have t2:h2[h1.size+1]? = some (.cells [.int .i64 X.c,.int .i64 7,.int .i64 60].toArray 79):=by rw[UY,Array.getElem?_push,if_pos (by simp)]
 have x2:h2[h1.size]? = some (.cells X.C.toArray 49):=by rw[UY,Zq (by simp),Zb]
 have b2:Zf h1.size h1 h2:=by rw[UY];exact ((Zf.refl _ _).add _).add _
 have yg2:=b2.get (Za y1) y1
 have B2:Zf h.size h h2:=B1.trans (b2.mono B1.size)
 have Yq:h1.size+1≠h.size:=by have:=B1.size;omega
 have EG:h1.size+1≠h1.size:=by omega
 clear e2 UY e0 XM y4
 have three:∀tc tr:Int,tc=gk g→tr=gm g→∃g3:Hp,g3=h2.setIfInBounds (h1.size+1) (.cells [.int .i64 tc,.int .i64 tr,.int .i64 60].toArray 79)∧Zf h.size h g3∧g3.size=h2.size∧g3[h1.size+1]? = some (.cells [.int .i64 (gk g),.int .i64 (gm g),.int .i64 60].toArray 79)∧g3[h1.size]? = some (.cells X.C.toArray 49)∧g3[h.size]? = some (.cells [.int .i64 g.k,.int .i64 g.a,.int .i64 g.b,.int .i64 g.c,.int .i64 g.d].toArray 69):=fun tc tr e1 e2=>by
  refine⟨_,rfl,B2.Zk (by have:=B1.size;omega) _,by simp,?_,?_,?_⟩
  ·rw[←e1,←e2];exact Zt t2
  ·rw[Yg EG];exact x2
  ·rw[Yg Yq];exact yg2
 have rc2:hc h2 ⟨h1.size+1,0,none⟩=some (.int .i64 X.c):=Zg t2
 have l2:=Za t2
 have h3c:∃g3:Hp,((JG g.d 17=15∧Jg h2 ⟨h1.size+1,1,none⟩ (.int .i64 0)=some g3)∨(JG g.d 17=16∧Jg h2 ⟨h1.size+1,0,none⟩ (.int .i64 ((X.c+1).tmod 4))=some g3)∨((¬JG g.d 17=15∧¬JG g.d 17=16)∧g3=h2))∧Zf h.size h g3∧g3.size=h2.size∧g3[h1.size+1]? = some (.cells [.int .i64 (gk g),.int .i64 (gm g),.int .i64 60].toArray 79)∧g3[h1.size]? = some (.cells X.C.toArray 49)∧g3[h.size]? = some (.cells [.int .i64 g.k,.int .i64 g.a,.int .i64 g.b,.int .i64 g.c,.int .i64 g.d].toArray 69):=by
  by_cases ig:JG g.d 17=15
  ·obtain⟨g3,Ak,z⟩:=three X.c 0 (by unfold gk;rw[if_neg (by omega),hX]) (by unfold gm;rw[if_pos ig])
   exact⟨g3,.inl ⟨ig,by rw[Yp t2 1 _,Ak];rfl⟩,z⟩
  by_cases vA:JG g.d 17=16
  ·obtain⟨g3,Ak,z⟩:=three ((X.c+1).tmod 4) 7 (by unfold gk;rw[if_pos vA,hX]) (by unfold gm;rw[if_neg ig])
   exact⟨g3,.inr (.inl ⟨vA,by rw[Yp t2 0 _,Ak];rfl⟩),z⟩
  ·obtain⟨g3,Ak,z⟩:=three X.c 7 (by unfold gk;rw[if_neg vA,hX]) (by unfold gm;rw[if_neg ig])
   exact⟨g3,.inr (.inr ⟨⟨ig,vA⟩,by rw[Ak];exact Pj t2⟩),z⟩
 obtain⟨g3,Kc,B3,s3,t3,x3,y3⟩:=h3c
 have ra:hc g3 ⟨h.size,1,none⟩=some (.int .i64 g.a):=Zg y3
 have rt:rd g3 ⟨h1.size+1,0,none⟩ 3=some [.int .i64 (gk g),.int .i64 (gm g),.int .i64 60]:=Zo t3 rfl
 have rx:rd g3 ⟨h1.size,0,none⟩ 5=some [.int .i64 X.k,.int .i64 X.c,.int .i64 X.s,.int .i64 X.n,.int .i64 X.v]:=Zo x3 rfl
 have ly:=Za y3
 have lt:=Za t3
 have lx:=Za x3
 have pk:=rI T g3 (JG g.a 1000) (gk g) (gm g) 60 X.k X.c X.s X.n X.v (tk.X9 B3)
 unfold VD Qb at pk
 clear three b2 t2 x2 yg2 b1 y1 b0 y0
 rcases Kc with⟨ig,w3⟩|⟨vA,w3⟩|⟨⟨ig,vA⟩,e23⟩
 case' inl=>simp -implicitDefEqProofs only[go_sem,↓reduceIte,ig,w3]
 case' inr.inl=>have ig:¬(16:Int)=15:=by decide
 case' inr.inl=>simp -implicitDefEqProofs only[go_sem,↓reduceIte,vA,rc2,w3]
 case' inr.inr=>subst e23
 case' inr.inr=>simp -implicitDefEqProofs only[go_sem,↓reduceIte,ig,vA]
 all_goals
  refine VS.w (g3.size) [] (.q 0 (.q 1 (.q 2 (.q 3 (.q 4 (.s 5 (.q 6 (.q 7 (.q 8 (.q 9 (.q 10 .nil))))))))))) mixed (by kernel_rfl) ?_
  simp -implicitDefEqProofs only[go_sem,↓reduceIte,ra,rt,rx,ly,lt,lx]
  refine Jx (fun h=>Xo T h g.a 1000 wa (by omega) (by omega)) ?_
  simp -implicitDefEqProofs only[go_sem,↓reduceIte,rt,rx,lt,lx]
  refine pk.use ?_
  rintro _ h4 ⟨⟨w,rfl,o4⟩,b4⟩
  have B4:=B3.trans (b4.mono B3.size)
  have eF:(if WH (JG g.a 1000) (gk g) (gm g) 60 X.k X.c X.s X.n X.v=0 then fh (JG g.a 1000) (gk g) (gm g) 60 X.k X.c X.s X.n X.v else [])=Vu g:=by unfold Vu zX;rw[←hX]
  rw[eF]at o4
  have o4:=o4.mono B3.size
  obtain⟨p4,c4,rfl,_⟩:=o4.open
  have yd:hc h4 ⟨h.size,4,none⟩=some (.int .i64 g.d):=Zg (b4.get ly y3)
  simp -implicitDefEqProofs only[go_sem,↓reduceIte,yd,b4]
  refine (Xo T h4 g.d 23 wd (by omega) (by omega)).pure ?_
  by_cases q22:JG g.d 23=22
  ·by_cases q30:30<(Vu g).length
   ·have zY:((Vu g).length:Int)>30:=by omega
    have eD:T2 g=(Vu g).take 30:=by unfold T2;rw[if_pos ⟨q22,q30⟩]
    simp -implicitDefEqProofs only[go_sem,↓reduceIte,q22,zY]
    have hf:=o4.own.Sr (m:=30) (by omega)
    rw[eD]
    refine⟨⟨?_,fun x hx=>o4.byte x (List.mem_of_mem_take hx)⟩,B4⟩
    rw[List.length_take,Nat.min_eq_left (by omega),List.map_take]
    exact hf
   ·have zY:¬((Vu g).length:Int)>30:=by omega
    have eD:T2 g=Vu g:=by unfold T2;rw[if_neg (fun h=>q30 h.2)]
    simp -implicitDefEqProofs only[go_sem,↓reduceIte,q22,zY]
    rw[eD]
    exact⟨o4,B4⟩
  ·have eD:T2 g=Vu g:=by unfold T2;rw[if_neg (fun h=>q22 h.1)]
   simp -implicitDefEqProofs only[go_sem,↓reduceIte,q22]
   rw[eD]
   exact⟨o4,B4⟩
def UW (g:Gr) (cr:Bool):Raw:=
 if JG g.k 24<3 then ⟨1,JG g.a 5,0,0,T2 g⟩ else if JG g.k 24<5 then ⟨2,JG g.a 5,0,0,[]⟩ else if JG g.k 24<14 then ⟨3,JG g.a 5,0,0,[]⟩
 else if JG g.k 24=14 then ⟨4,0,JG g.c 20,0,[]⟩ else if JG g.k 24=15 then ⟨5,0,JG g.c 20,0,[]⟩ else if JG g.k 24=16 then ⟨6,0,JG g.c 20,0,[]⟩
 else if JG g.k 24=17∧cr=true then ⟨8,JG g.a 5,0,JG g.c 90,[]⟩ else if JG g.k 24=18∧cr=true then ⟨9,JG g.a 5,0,0,[]⟩ else ⟨7,0,0,0,[]⟩
theorem gn (T:World) (h:Hp) (g:Gr) (cr:Bool) (hg:g.ok) (tk:Tk h) :
  Zc Tryz.prog T 19 #[.agg g.C.toArray,.bool cr] h fun v' h'=>(∃w,v'=.agg (X3 (UW g cr,w)).toArray∧ZZ h.size 5 h' w (UW g cr).data)∧Zf h.size h h':=by
 have pkc:=fun h tk=>GP T h g hg tk
 obtain⟨⟨wk,wa⟩,wb,wc,wd⟩:=hg
 refine Zc.Zh (args:=[_,_]) Tryz.func19 rfl rfl rfl rfl ?_
 unfold Gr.C at *
 obtain⟨h0,XM⟩:=Zy ((h.push (.cells [.int .i64 g.k,.int .i64 g.a,.int .i64 g.b,.int .i64 g.c,.int .i64 g.d].toArray 69)).push (.cells (WQ 0 0 0 0 (.slice none 0 0)).toArray 36):Hp)
 have e0:=XM.symm
 have y0:h0[h.size]? = some (.cells [.int .i64 g.k,.int .i64 g.a,.int .i64 g.b,.int .i64 g.c,.int .i64 g.d].toArray 69):=by rw[XM,Zq (by simp),Zb]
 have z0:h0[h.size+1]? = some (.cells (WQ 0 0 0 0 (.slice none 0 0)).toArray 36):=by rw[XM,Array.getElem?_push,if_pos (by simp)]
 have b0:Zf h.size h h0:=by rw[XM];exact ((Zf.refl _ _).add _).add _
 have u0:hc h0 ⟨h.size,0,none⟩=some (.int .i64 g.k):=Zg y0
 have u1:hc h0 ⟨h.size,1,none⟩=some (.int .i64 g.a):=Zg y0
 have u3:hc h0 ⟨h.size,3,none⟩=some (.int .i64 g.c):=Zg y0
 have ry:rd h0 ⟨h.size,0,none⟩ 5=some [.int .i64 g.k,.int .i64 g.a,.int .i64 g.b,.int .i64 g.c,.int .i64 g.d]:=Zo y0 rfl
 have ly:=Za y0
 have lz:=Za z0
 have rk:=J8 g.k (m:=24) (by omega)
 unfold WQ at e0
 simp -implicitDefEqProofs only[go_sem,↓reduceIte,e0,u1,u0]
 refine (Xo T h0 g.a 5 wa (by omega) (by omega)).pure ?_
 simp -implicitDefEqProofs only[go_sem,↓reduceIte,u0]
 refine (Xo T h0 g.k 24 wk (by omega) (by omega)).pure ?_
 obtain⟨A,hA⟩:=Zy (JG g.a 5)
 rw[←hA]
 have fin:∀(g4:Hp) (k n a b:Int) (p:Option Addr) (m c:Nat) (l:List Nat),g4[h.size+1]? = some (.cells (WQ 0 0 0 0 (.slice none 0 0)).toArray 36)→Zf h.size h g4→ZZ (h.size+2) 5 g4 (.slice p m c) l→UW g cr=⟨k,n,a,b,l⟩ →
   wr g4 ⟨h.size+1,0,none⟩ [.int .i64 k,.int .i64 n,.int .i64 a,.int .i64 b,.slice p m c]=some (g4.setIfInBounds (h.size+1) (.cells (WQ k n a b (.slice p m c)).toArray 36)) ∧
   rd (g4.setIfInBounds (h.size+1) (.cells (WQ k n a b (.slice p m c)).toArray 36)) ⟨h.size+1,0,none⟩ 5=some [.int .i64 k,.int .i64 n,.int .i64 a,.int .i64 b,.slice p m c] ∧
   ((∃w,Value.agg [.int .i64 k,.int .i64 n,.int .i64 a,.int .i64 b,.slice p m c].toArray=.agg (X3 (UW g cr,w)).toArray∧ZZ h.size 5 (g4.setIfInBounds (h.size+1) (.cells (WQ k n a b (.slice p m c)).toArray 36)) w (UW g cr).data)∧Zf h.size h (g4.setIfInBounds (h.size+1) (.cells (WQ k n a b (.slice p m c)).toArray 36))):=fun g4 k n a b p m c l y4 b4 o4 e=>by
  refine⟨by rw[ZP y4 0 _];rfl,Zo (Zt y4) rfl,⟨.slice p m c,by rw[e];rfl,?_⟩,b4.Zk (by omega) _⟩
  rw[e]
  exact (o4.ZR (by omega) _).mono (by omega)
 have nil:=fun B=>ZZ.nil B 5 h0
 have c0:JG g.k 24<3∨(¬JG g.k 24<3∧JG g.k 24<5)∨(¬JG g.k 24<5∧JG g.k 24<14)∨JG g.k 24=14∨JG g.k 24=15∨JG g.k 24=16∨JG g.k 24=17∨JG g.k 24=18∨18<JG g.k 24:=by omega
 obtain⟨K,hK⟩:=Zy (JG g.k 24)
 rw[←hK]at c0 rk ⊢
 rcases c0 with c|⟨c,c'⟩|⟨c,c'⟩|c|c|c|c|c|c
 ·simp -implicitDefEqProofs only[go_sem,↓reduceIte,c,ry,ly]
  refine (pkc h0 (tk.X9 b0)).use ?_
  rintro w g4 ⟨o4,b4⟩
  obtain⟨p,cp,rfl,_⟩:=o4.open
  have s0:h0.size=h.size+2:=by rw[XM];simp
  obtain⟨f1,f2,f3⟩:=fin g4 1 A 0 0 p _ cp (T2 g) (b4.get lz z0) (b0.trans (b4.mono b0.size)) (o4.mono (by omega)) (by unfold UW;rw[←hK,if_pos c,←hA])
  have l4:=Za (b4.get lz z0)
  simp -implicitDefEqProofs only[go_sem,↓reduceIte,f1,f2,l4]
  exact f3
 ·obtain⟨f1,f2,f3⟩:=fin h0 2 A 0 0 none 0 0 [] z0 b0 (nil _) (by unfold UW;rw[←hK];rw[if_neg c,if_pos c',←hA])
  simp -implicitDefEqProofs only[go_sem,↓reduceIte,c,c',f1,f2,lz]
  exact f3
 ·obtain⟨f1,f2,f3⟩:=fin h0 3 A 0 0 none 0 0 [] z0 b0 (nil _) (by unfold UW;rw[←hK];rw[if_neg (by omega),if_neg c,if_pos c',←hA])
  have c2:¬K<3:=by omega
  simp -implicitDefEqProofs only[go_sem,↓reduceIte,c,c',c2,f1,f2,lz]
  exact f3
 ·obtain⟨f1,f2,f3⟩:=fin h0 4 0 (JG g.c 20) 0 none 0 0 [] z0 b0 (nil _) (by unfold UW;rw[←hK];rw[c];rfl)
  have t14:¬(14:Int)<3:=by decide
  simp -implicitDefEqProofs only[go_sem,↓reduceIte,c,u3]
  refine (Xo T h0 g.c 20 wc (by omega) (by omega)).pure ?_
  simp -implicitDefEqProofs only[go_sem,↓reduceIte,f1,f2,lz]
  exact f3
 ·obtain⟨f1,f2,f3⟩:=fin h0 5 0 (JG g.c 20) 0 none 0 0 [] z0 b0 (nil _) (by unfold UW;rw[←hK];rw[c];rfl)
  have t15:¬(15:Int)<3:=by decide
  simp -implicitDefEqProofs only[go_sem,↓reduceIte,c,u3]
  refine (Xo T h0 g.c 20 wc (by omega) (by omega)).pure ?_
  simp -implicitDefEqProofs only[go_sem,↓reduceIte,f1,f2,lz]
  exact f3
 ·obtain⟨f1,f2,f3⟩:=fin h0 6 0 (JG g.c 20) 0 none 0 0 [] z0 b0 (nil _) (by unfold UW;rw[←hK];rw[c];rfl)
  have t16:¬(16:Int)<3:=by decide
  simp -implicitDefEqProofs only[go_sem,↓reduceIte,c,u3]
  refine (Xo T h0 g.c 20 wc (by omega) (by omega)).pure ?_
  simp -implicitDefEqProofs only[go_sem,↓reduceIte,f1,f2,lz]
  exact f3
 ·cases cr with
  | true=>
   obtain⟨f1,f2,f3⟩:=fin h0 8 A 0 (JG g.c 90) none 0 0 [] z0 b0 (nil _) (by unfold UW;rw[←hK,c,←hA];rfl)
   simp -implicitDefEqProofs only[go_sem,↓reduceIte,c,u3]
   refine (Xo T h0 g.c 90 wc (by omega) (by omega)).pure ?_
   simp -implicitDefEqProofs only[go_sem,↓reduceIte,f1,f2,lz]
   exact f3
  | false=>
   obtain⟨f1,f2,f3⟩:=fin h0 7 0 0 0 none 0 0 [] z0 b0 (nil _) (by unfold UW;rw[←hK,c];rfl)
   simp -implicitDefEqProofs only[go_sem,↓reduceIte,c,f1,f2,lz]
   exact f3
 ·cases cr with
  | true=>
   obtain⟨f1,f2,f3⟩:=fin h0 9 A 0 0 none 0 0 [] z0 b0 (nil _) (by unfold UW;rw[←hK,c,←hA];rfl)
   simp -implicitDefEqProofs only[go_sem,↓reduceIte,c,f1,f2,lz]
   exact f3
  | false=>
   obtain⟨f1,f2,f3⟩:=fin h0 7 0 0 0 none 0 0 [] z0 b0 (nil _) (by unfold UW;rw[←hK,c];rfl)
   simp -implicitDefEqProofs only[go_sem,↓reduceIte,c,f1,f2,lz]
   exact f3
 ·obtain⟨f1,f2,f3⟩:=fin h0 7 0 0 0 none 0 0 [] z0 b0 (nil _) (by unfold UW;rw[←hK,if_neg (by omega),if_neg (by omega),if_neg (by omega),if_neg (by omega),if_neg (by omega),if_neg (by omega),if_neg (by omega),if_neg (by omega)])
  have c3:¬K<3:=by omega
  have c5:¬K<5:=by omega
  have c14:¬K<14:=by omega
  have d14:¬K=14:=by omega
  have d15:¬K=15:=by omega
  have d16:¬K=16:=by omega
  have d17:¬K=17:=by omega
  have d18:¬K=18:=by omega
  simp -implicitDefEqProofs only[go_sem,↓reduceIte,c3,c5,c14,d14,d15,d16,d17,d18,f1,f2,lz]
  exact f3
def gq:Raw:=⟨7,0,0,0,[]⟩
def Ti (n:Nat) (a:Raw):Raw:=if a.k=1∧6<n+1 then gq else a
def Wt (cr:Bool) (st:Nat × List Raw) (g:Gr):Nat × List Raw:=(if (UW g cr).k=1 then st.1+1 else st.1,st.2++[Ti st.1 (UW g cr)])
def T3 (gs:List Gr) (cr:Bool) (j:Nat):Nat × List Raw:=(gs.take j).foldl (Wt cr) (0,[])
def vB (gs:List Gr) (Xp:Nat) (cr:Bool):List Raw:=(T3 gs cr Xp).2
theorem Hm (gs:List Gr) (cr:Bool) (j:Nat) (hj:j<gs.length):T3 gs cr (j+1)=Wt cr (T3 gs cr j) gs[j]:=by
 unfold T3
 rw[Ye gs j hj,List.foldl_append]
 rfl
theorem PV (gs:List Gr) (cr:Bool):∀j,j≤gs.length→(T3 gs cr j).2.length=j∧(T3 gs cr j).1≤j:=by
 intro j
 induction j with
 | zero=>intro _;exact⟨rfl,Nat.le_refl _⟩
 | succ j ih=>
  intro h
  obtain⟨h1,h2⟩:=ih (by omega)
  rw[Hm gs cr j (by omega)]
  unfold Wt
  simp only[List.length_append,List.length_singleton]
  refine⟨by omega,?_⟩
  split<;>omega
theorem Dy (gs:List Gr) (cr:Bool) (j:Nat) (h:gs.length≤j):T3 gs cr j=T3 gs cr gs.length:=by
 unfold T3
 rw[List.take_of_length_le h,List.take_of_length_le (Nat.le_refl _)]
theorem gu {B:Nat} {h:Hp} {v:Value} {l:List Nat} {o:Ow} (s:ZZ B 5 h v l) (hf:∀b,B≤b→o b=none):VT o h v l:=⟨Im.QK s.own hf,s.byte⟩
set_option maxHeartbeats 4000000 in
theorem AJ (T:World) (h:Hp) (v:Value) (gs:List Gr) (Xp:Nat) (cr:Bool) (hv:Ts Gr.C 5 h v gs) (hg:∀g∈gs,g.ok) (hm:Xp≤1000000) (tk:Tk h) :
  Zc Tryz.prog T 10 #[v,.int .i64 Xp,.bool cr] h fun v' h'=>Zf h.size h h'∧Td v'∧∃ys,Xd ys=vB gs Xp cr∧Ts X3 5 h' v' ys∧(∀y∈ys,VT Rt h' y.2 y.1.data)∧(∀y∈ys,∀b,ZL y.2=some b→h.size≤b)∧∀b,ZL v'=some b→h.size≤b∧b<h'.size:=by
 obtain⟨p,c,rfl,YL⟩:=hv.open (n:=5) (enc:=Gr.C) (fun _=>rfl) (by decide)
 refine Zc.Zh (args:=[_,_,_]) Tryz.func10 rfl rfl rfl rfl ?_
 simp -implicitDefEqProofs only[go_sem,↓reduceIte]
 refine VS.ZV (fun F g=>(F 0=.slice p gs.length c∧F 1=.int .i64 Xp∧F 2=.bool cr)∧∃(j:Nat) (o:Ow) (ys:List (Raw × Value)),j≤gs.length∧j≤Xp∧F 9=.int .i64 j∧F 8=.int .i64 ((T3 gs cr j).1:Nat)∧Kp (fun t=>t=.log 100) Rt h o g∧Xd ys=(T3 gs cr j).2∧Ys o (.log 100) 36 5 g (F 7) ys.length (Zu X3 ys)∧(∀y∈ys,VT o g y.2 y.1.data)∧∀y∈ys,∀b,ZL y.2=some b→h.size≤b)
  (fun F _=>gs.length-(vi (F 9)).toNat) rfl ⟨⟨rfl,rfl,rfl⟩,0,Rt,[],Nat.zero_le _,Nat.zero_le _,rfl,rfl,Kp.refl (OI h) _,rfl,Ys.nil _ _ _ _ _,(fun y hy=>by cases hy),fun y hy=>by cases hy⟩ ?_
 rintro F2 g2 ⟨⟨f0,f1,f2⟩,j,o2,ys,hj,hjm,f9,f8,K2,hr,O2,I2,N2⟩
 have yl:ys.length=j:=by
  have:=congrArg List.length hr
  unfold Xd at this
  rw[List.length_map,(PV gs cr j hj).1]at this
  exact this
 obtain⟨p3,c3,f3,hc3⟩:=O2.isSlice
 by_cases ZA:j<gs.length∧j<Xp
 ·obtain⟨ZA,ZnS⟩:=ZA
  have ZI:(j:Int)<gs.length:=by omega
  have ZeS:(j:Int)<Xp:=by omega
  obtain⟨bb,oo,rfl,UX,PO⟩:=YL (by intro e;rw[e]at ZA;simp at ZA)
  obtain⟨g,uW⟩:=Zy (gs[j])
  have hgm:g∈gs:=by rw[uW];exact List.getElem_mem ZA
  have r1:rd g2 ⟨bb,oo+j*5,none⟩ 5=some g.C:=by rw[JH (T1 K2) UX,uW];exact (PO j ZA).rd (by simp[Gr.C]) rfl
  have ca:=gn T g2 g cr (hg g hgm) (tk.X9 (T1 K2))
  unfold Gr.C at ca r1
  simp -implicitDefEqProofs only[go_sem,↓reduceIte,f0,f1,f2,f9,ZI,ZeS,r1]
  refine ca.use ?_
  rintro vv g3 ⟨⟨w,hvv,o3⟩,b3⟩
  obtain⟨a,ha⟩:=Zy (UW g cr)
  rw[←ha]at o3 hvv
  obtain⟨p4,c4,rfl,_⟩:=o3.open
  have hvv:vv=.agg #[.int .i64 a.k,.int .i64 a.n,.int .i64 a.a,.int .i64 a.b,.slice p4 a.data.length c4]:=by rw[hvv];rfl
  subst hvv
  obtain⟨n,hn⟩:=Zy ((T3 gs cr j).1)
  rw[←hn]at f8
  have hnj:n≤j:=by rw[hn];exact (PV gs cr j hj).2
  obtain⟨g4,PN⟩:=Zy (g3.push (.cells (WQ a.k a.n a.a a.b (.slice p4 a.data.length c4)).toArray 36):Hp)
  have e4:=PN.symm
  have y4:g4[g3.size]? = some (.cells (WQ a.k a.n a.a a.b (.slice p4 a.data.length c4)).toArray 36):=by rw[PN];exact Zb
  have K3:Kp Qe o2 g2 o2 g3:=ZB K2.ZU b3
  have k4:Kp Qe o2 g3 o2 g4:=by rw[PN];exact ZW K3.ZU _
  have K4:=K3.trans k4
  have i3:VT o2 g3 (.slice p4 a.data.length c4) a.data:=gu o3 (fun b hb=>K2.ZU b hb)
  have i4:=i3.Zd k4
  have rk:hc g4 ⟨g3.size,0,none⟩=some (.int .i64 a.k):=Zg y4
  have l4:=Za y4
  have hs3:=b3.size
  have h5c:∃(g5:Hp) (q:Option Addr) (cq:Nat),((¬a.k=1∧g5=g4)∨((a.k=1∧¬(n:Int)+1>6)∧g5=g4)∨((a.k=1∧(n:Int)+1>6)∧wr g4 ⟨g3.size,0,none⟩ [.int .i64 7,.int .i64 0,.int .i64 0,.int .i64 0,.slice none 0 0]=some g5)) ∧
    g5[g3.size]? = some (.cells (WQ (Ti n a).k (Ti n a).n (Ti n a).a (Ti n a).b (.slice q (Ti n a).data.length cq)).toArray 36)∧Kp Qe o2 g2 o2 g5∧VT o2 g5 (.slice q (Ti n a).data.length cq) (Ti n a).data∧g3.size<g5.size∧∀b,ZL (.slice q (Ti n a).data.length cq)=some b→h.size≤b:=by
   have ZeT:∀b,ZL (.slice p4 a.data.length c4)=some b→h.size≤b:=fun b hb=>Nat.le_trans K2.size (o3.own.ZD b hb)
   by_cases q1:a.k=1
   ·by_cases q6:6<n+1
    ·have eX:Ti n a=gq:=by unfold Ti;rw[if_pos ⟨q1,q6⟩]
     rw[eX]
     refine⟨_,none,0,.inr (.inr ⟨⟨q1,by omega⟩,by rw[ZP y4 0 _];rfl⟩),Zt y4,K4.CX (by omega) _,⟨Im.nil _ 1 _ none,fun x hx=>by cases hx⟩,by simpa using l4,fun b hb=>by simp[ZL]at hb⟩
    ·have eX:Ti n a=a:=by unfold Ti;rw[if_neg (fun h=>q6 h.2)]
     rw[eX]
     exact⟨g4,p4,c4,.inr (.inl ⟨⟨q1,by omega⟩,rfl⟩),y4,K4,i4,l4,ZeT⟩
   ·have eX:Ti n a=a:=by unfold Ti;rw[if_neg (fun h=>q1 h.1)]
    rw[eX]
    exact⟨g4,p4,c4,.inl ⟨q1,rfl⟩,y4,K4,i4,l4,ZeT⟩
  obtain⟨g5,q,cq,Kc,y5,K5,i5,l5,n5⟩:=h5c
  obtain⟨X,hX⟩:=Zy (Ti n a)
  rw[←hX]at y5 i5 n5
  have eN:T3 gs cr (j+1)=(if a.k=1 then n+1 else n,(T3 gs cr j).2++[X]):=by rw[Hm gs cr j ZA,←uW];unfold Wt;rw[←ha,←hn,hX]
  have r5:rd g5 ⟨g3.size,0,none⟩ 5=some (WQ X.k X.n X.a X.b (.slice q X.data.length cq)):=Zo y5 rfl
  obtain⟨g6,PQ⟩:=Zy (g5.push (.cells (WQ X.k X.n X.a X.b (.slice q X.data.length cq)).toArray 36):Hp)
  have e6:=PQ.symm
  have k6:Kp Qe o2 g5 o2 g6:=by rw[PQ];exact ZW K5.ZU _
  have x6:g6[g5.size]? = some (.cells (WQ X.k X.n X.a X.b (.slice q X.data.length cq)).toArray 36):=by rw[PQ];exact Zb
  have src:Sl 5 g6 (.slice (some ⟨g5.size,0,none⟩) 1 1) 1 (WQ X.k X.n X.a X.b (.slice q X.data.length cq)):=⟨_,1,rfl,rfl,fun _=>⟨g5.size,0,rfl,fun i hi=>by
   rw[Zg x6,Yi,Nat.zero_add];exact List.getElem?_eq_getElem hi⟩⟩
  have O6:=(O2.Zd K5 (fun q=>q)).Zd k6 (fun q=>q)
  rw[f3]at O6
  have stp:∀v7 o7 (g7:Hp),Ys o7 (.log 100) 36 5 g7 v7 (ys.length+1) (Zu X3 ys++WQ X.k X.n X.a X.b (.slice q X.data.length cq))→Kp (fun u=>u=.log 100) o2 g6 o7 g7 →
    Kp (fun t=>t=.log 100) Rt h o7 g7∧Xd (ys++[(X,.slice q X.data.length cq)])=(T3 gs cr (j+1)).2∧Ys o7 (.log 100) 36 5 g7 v7 (ys++[(X,Value.slice q X.data.length cq)]).length (Zu X3 (ys++[(X,.slice q X.data.length cq)]))∧(∀y∈ys++[(X,Value.slice q X.data.length cq)],VT o7 g7 y.2 y.1.data)∧∀y∈ys++[(X,Value.slice q X.data.length cq)],∀b,ZL y.2=some b→h.size≤b:=fun v7 o7 g7 O7 k7=>by
   refine⟨((K2.trans (ZC K5)).trans (ZC k6)).trans k7,?_,?_,fun y hy=>?_,fun y hy=>?_⟩
   ·rw[eN,←hr]
    unfold Xd
    simp only[List.map_append,List.map_cons,List.map_nil]
   ·have e:Zu X3 (ys++[(X,.slice q X.data.length cq)])=Zu X3 ys++WQ X.k X.n X.a X.b (.slice q X.data.length cq):=by rw[Yc,QU];rfl
    rw[e,List.length_append]
    exact O7
   ·rcases List.mem_append.1 hy with hy|hy
    ·exact (((I2 y hy).Zd K5).Zd k6).Zd k7
    ·rw[List.mem_singleton.1 hy]
     exact (i5.Zd k6).Zd k7
   ·rcases List.mem_append.1 hy with hy|hy
    ·exact N2 y hy
    ·rw[List.mem_singleton.1 hy];exact n5
  unfold WQ at e4 r5 e6
  rcases Kc with⟨q1,e54⟩|⟨⟨q1,q6⟩,e54⟩|⟨⟨q1,q6⟩,w5⟩
  case' inl=>subst e54
  case' inl=>simp -implicitDefEqProofs only[go_sem,↓reduceIte,e4,rk,q1,r5,l5,e6,f3]
  case' inr.inl=>subst e54
  case' inr.inl=>have q1t:=eq_true q1
  case' inr.inl=>simp -implicitDefEqProofs only[go_sem,↓reduceIte,e4,rk,q1t,f8,q6,r5,l5,e6,f3]
  case' inr.inr=>have q1t:=eq_true q1
  case' inr.inr=>simp -implicitDefEqProofs only[go_sem,↓reduceIte,e4,rk,q1t,f8,q6,w5,l4,r5,l5,e6,f3]
  all_goals
   refine XQ (E:=36) (n:=5) (bytes:=56) (k:=1) jW Tryz.underlying23 xj xo rfl xm O6 k6.ZU src rfl (by omega) (by omega) ?_
   intro v7 o7 g7 O7 k7 _
   have k7:Kp (fun u=>u=.log 100) o2 g6 o7 g7:=k7
   obtain⟨z1,z2,z3,z4,z5⟩:=stp v7 o7 g7 O7 k7
   simp -implicitDefEqProofs only[go_sem,↓reduceIte,f9]
   unfold Y6
   refine⟨⟨⟨f0,f1,f2⟩,j+1,o7,ys++[(X,Value.slice q X.data.length cq)],ZA,ZnS,rfl,?_,z1,z2,?_,z4,z5⟩,?_⟩
   ·rw[eN]
    first
    | (rw[if_pos q1];rfl)
    | (rw[if_neg q1];exact f8)
   ·exact z3
   ·simp only[vi,Zj,↓reduceIte,f9];omega
 have e9:vB gs Xp cr=(T3 gs cr j).2:=by
  unfold vB
  by_cases q:j<gs.length
  ·rw[show Xp=j by omega]
  ·rw[show j=gs.length by omega,Dy gs cr Xp (by omega)]
 have fin:∀b,ZL (F2 7)=some b→h.size≤b∧b<g2.size:=fun b hb=>by
  have ho:=nz O2 hb
  refine⟨Dw K2 ho,?_⟩
  refine Classical.byContradiction fun q=>?_
  rw[K2.ZU b (by omega)]at ho;cases ho
 by_cases Ol:j<gs.length
 ·have ZI:(j:Int)<gs.length:=by omega
  have YF:¬(j:Int)<Xp:=by omega
  simp -implicitDefEqProofs only[go_sem,↓reduceIte,f0,f1,f9,ZI,YF]
  exact⟨T1 K2,by rw[f3];exact hc3,ys,by rw[hr,e9],⟨O2.sl⟩,(fun y hy=>⟨⟨(I2 y hy).1.sl,(I2 y hy).1.fits,fun b hb=>⟨((I2 y hy).1.free b hb).1,rfl⟩⟩,(I2 y hy).2⟩),N2,fin⟩
 ·have ZI:¬(j:Int)<gs.length:=by omega
  simp -implicitDefEqProofs only[go_sem,↓reduceIte,f0,f1,f9,ZI]
  exact⟨T1 K2,by rw[f3];exact hc3,ys,by rw[hr,e9],⟨O2.sl⟩,(fun y hy=>⟨⟨(I2 y hy).1.sl,(I2 y hy).1.fits,fun b hb=>⟨((I2 y hy).1.free b hb).1,rfl⟩⟩,(I2 y hy).2⟩),N2,fin⟩
end Go.Proofs.YtpomedigibbeeaaGreatDoor

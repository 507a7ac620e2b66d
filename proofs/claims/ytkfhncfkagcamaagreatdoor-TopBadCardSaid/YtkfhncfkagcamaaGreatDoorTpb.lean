/- The pieces of an act: setting a node, what a tape's records make, all letters come. -/
import Derived.Test.YtkfhncfkagcamaaGreatDoorMdg
import Derived.Test.YtkfhncfkagcamaaGreatDoorLchks
import Derived.Test.YtkfhncfkagcamaaGreatDoorPak
namespace Go.Proofs.YtkfhncfkagcamaaGreatDoor
open Go Go.V
set_option linter.unusedSimpArgs false
set_option linter.unusedVariables false
set_option maxRecDepth 100000
theorem Za1 {l:List Nat} {a r:Vi} {k j:Nat} (h:Rec l a k r j):∀f,l.length+1≤k+f→Ko l f a k=(r,j):=by
 induction h with
 | stop e=>
  intro f hf
  cases f with
  | zero=>rfl
  | succ f=>unfold Ko;rw[e]
 | @go a a' r k k' j e _ ih=>
  intro f hf
  have e':=e
  unfold Xz at e'
  split at e'
  ·rename_i q
   rw[Option.map_eq_some_iff]at e'
   obtain⟨x,_,hx⟩:=e'
   have hk:k'=k+(DD l k+4):=(congrArg Prod.snd hx).symm
   cases f with
   | zero=>omega
   | succ f=>
    unfold Ko
    rw[e]
    exact ih f (by omega)
  ·cases e'
theorem Fl {l:List Nat} {r:Vi} {k:Nat} (h:Rec l QG 0 r k):Sh l=(r,k):=Za1 h _ (by omega)
theorem HN {o:Ow} {h:Hp} {wb:Nat} {Z7:Nat→Nat} {YC:WA} {fl:List Y9} {bad:Nat→Int} {told:List Sd} (d:Ug o h) (W:ZE o h wb Z7 YC fl bad told) (i nb:Nat) (hi:i<5) :
  ∃b off c g,YC.nodes=.slice (some ⟨b,off,none⟩) 5 c∧Jn h ⟨b,off+i,none⟩ (Zn nb)=some g∧Kp (fun t=>t=.nodes) o h o g∧ZE o g wb (fun j=>if j=i then nb else Z7 j) YC fl bad told:=by
 rcases hw:W.nodes with⟨_,e,_⟩|⟨b,off,cap,pre,spare,g1,g2,g3,g4,g5,g6,g7⟩
 ·cases e
 have hw':Jn h ⟨b,off+i,none⟩ (Zn nb)=some (h.setIfInBounds b (.cells (pre++([Zn (Z7 0),Zn (Z7 1),Zn (Z7 2),Zn (Z7 3),Zn (Z7 4)].set i (Zn nb)++spare)).toArray 124)):=by
  rw[Yq g3,if_pos ⟨by simp only[List.length_append,List.length_cons];omega,rfl⟩]
  rw[←g4,List.set_append_right _ _ (by omega),Nat.add_sub_cancel_left,List.set_append_left _ _ (by simpa using hi)]
 have kk:Kp (fun t=>t=.nodes) o h o (h.setIfInBounds b (.cells (pre++([Zn (Z7 0),Zn (Z7 1),Zn (Z7 2),Zn (Z7 3),Zn (Z7 4)].set i (Zn nb)++spare)).toArray 124)):=(Kp.refl d (fun t=>t=.nodes)).set g1 rfl _
 refine⟨b,off,cap,_,g2,hw',kk,W.ZD.Zc kk (by intro e;cases e),?_,W.Zj.Zc kk (by intro e;cases e),W.told.Zc kk (by intro e;cases e)⟩
 refine .inr ⟨b,off,cap,pre,spare,g1,g2,?_,g4,rfl,g6,g7⟩
 rw[Zw g3]
 match i,hi with
 | 0,_=>rfl
 | 1,_=>rfl
 | 2,_=>rfl
 | 3,_=>rfl
 | 4,_=>rfl
def Vj (k n a b:Int) (d:Value):List Value:=[.int .i64 k,.int .i64 n,.int .i64 a,.int .i64 b,d]
structure WOk (w:Wd):Prop where
 me:∀i,i<5→(w.nodes i).me=i
 step:∀i,i<5→ax (w.nodes i) w.Zj.length w.told.length
 queue:∀i,i<5→(w.nodes i).queue.length≤100000000000
 log:∀i,i<5→(w.nodes i).log.length≤100000000000
 waiting:∀i,i<5→(w.nodes i).waiting.length≤100000000000
 inbox:∀i,i<5→(w.nodes i).inbox.length≤100000000000
 data:∀i,i<5→(w.nodes i).data.length≤1000000
 told:w.told.length≤100000000000
 bad:∀i,i<5→0≤w.bad i∧w.bad i≤1000000000000
 Zo4:∀i,i<5→(w.nodes i).own.p.r≤1000000000000∧(w.nodes i).heard.r≤1000000000000 ∧ -1000000000000≤(w.nodes i).own.p.r ∧ -1000000000000≤(w.nodes i).heard.r
 rgn:∀i,i<5→∀r,(w.nodes i).Zl=some r→r.b.r≤1000000000000 ∧ -1000000000000≤r.b.r
 to:∀l∈w.Zj,0≤l.to∧l.to<5
 room:w.Zj.length≤100000000000
theorem Ja.fresh {o o':Ow} {h h':Hp} {wb:Nat} {Z7:Nat→Nat} {YC:WA} {w:Wd} {i nb:Nat} {a:NA} {n:Nd} (A:Ja o h wb Z7 YC w) (k:Kp (fun t=>t=.nodes∨t.of=some i) o h o' h')
  (N:ZI o' h' wb i nb a n) (W:ZE o' h' wb (fun j=>if j=i then nb else Z7 j) YC w.Zj w.bad w.told):Ja o' h' wb (fun j=>if j=i then nb else Z7 j) YC (w.set i n):=by
 refine⟨W,fun j hj=>?_⟩
 by_cases e:j=i
 ·subst e
  refine⟨a,?_⟩
  unfold Wd.set
  simpa using N
 ·obtain⟨b,M⟩:=A.nd j hj
  refine⟨b,?_⟩
  unfold Wd.set
  simp only[if_neg e]
  refine M.Zc k fun t q hq=>?_
  rcases q with rfl|q
  ·cases hq
  ·rw[hq]at q;exact e (Option.some.inj q)
theorem D9 (w:Wd) (i:Nat):w.set i (w.nodes i)=w:=by
 unfold Wd.set
 have:(fun j=>if j=i then w.nodes i else w.nodes j)=w.nodes:=by
  funext j;split
  ·next e=>rw[e]
  ·rfl
 rw[this]
theorem KD {o:Ow} {h':Hp} {p:Option Addr} {c:Nat} {L:List Nat} (d:Ug o h') (hb:Bs h' (.slice p L.length c) L) (hc:L.length≤c) (hf:∀b,ZM (.slice p L.length c)=some b→o b=none∧b<h'.size):Ti o h' (.slice p L.length c) L:=
 ⟨⟨hb.sl,⟨p,c,rfl,hc⟩,fun b q=>⟨(hf b q).2,(hf b q).1⟩⟩,hb.byte⟩
theorem Ca {o:Ow} {h:Hp} {v:Value} {l:List Nat} {k:Nat} (d:Ug o h) (s:Ti o h v l) (hk:k<h.size) (hv:∀b,ZM v=some b→b≠k) (x:Obj):Ti o (h.setIfInBounds k x) v l:=by
 have d2:Ug (Jt o k Tg.nodes) h:=fun b hb=>by rw[Y0 (by omega)];exact d b hb
 have s2:Ti (Jt o k Tg.nodes) h v l:=⟨⟨s.1.sl,s.1.fits,fun b hb=>⟨(s.1.free b hb).1,by rw[Y0 (hv b hb)];exact (s.1.free b hb).2⟩⟩,s.2⟩
 have k2:Kp (fun t=>t=Tg.nodes) (Jt o k Tg.nodes) h (Jt o k Tg.nodes) (h.setIfInBounds k x):=(Kp.refl d2 (fun t=>t=Tg.nodes)).set YV rfl x
 have s3:=s2.Zc k2
 exact⟨⟨s3.1.sl,s3.1.fits,fun b hb=>⟨(s3.1.free b hb).1,(s.1.free b hb).2⟩⟩,s3.2⟩
theorem aB (i:Nat) (n:Nd) (k:Int) (L:List Nat) (Z E:Int) (hu:n.up=true) (h:T3 n.data n.Xs k=(L,Z,E)):crashed i n k = { blank i true L Z QG with up:=false }:=by
 unfold crashed
 rw[if_pos hu]
 unfold T3 at h
 by_cases c:Y5 n.data n.Xs
 ·rw[if_pos (show n.data.length≤100000∧0≤n.Xs∧n.Xs≤n.data.length from c)]at h
  by_cases q:k<0
  ·rw[if_pos q]at h
   cases h
   rw[if_neg (fun e=>by have:=e.2;omega)];rfl
  ·rw[if_neg q]at h
   cases h
   rw[if_pos ⟨c,by omega⟩];rfl
 ·rw[if_neg (show ¬(n.data.length≤100000∧0≤n.Xs∧n.Xs≤n.data.length) from c)]at h
  cases h
  rw[if_neg (fun e=>c e.1)];rfl
theorem aC (w:Wd) (l:Y9) (i:Nat):((Jr w l).nodes i).inbox.length≤(w.nodes i).inbox.length+1:=by
 unfold Jr
 split
 ·unfold Wd.set
  simp only
  split
  ·next e=>subst e;simp
  ·omega
 ·omega
theorem Cb (i:Nat):∀(ls:List Y9) (w:Wd),((ls.foldl Jr w).nodes i).inbox.length≤(w.nodes i).inbox.length+ls.length:=by
 intro ls
 induction ls with
 | nil=>intro w;simp
 | cons l ls ih=>
  intro w
  have h1:=ih (Jr w l)
  have h2:=aC w l i
  simp only[List.foldl_cons,List.length_cons]
  omega
def U9 (l:List Vt):Prop:=(∀x∈l,Yb x)∧l.Pairwise (fun a b=>a.slot<b.slot)
structure HP (a:Vi):Prop where
 bal:ZR a.p∨(a.p.r=0∧a.p.n=0)
 Jv:U9 a.l
def Og (b:XO):Prop:=0≤b.r∧b.r≤65536
theorem aD:∀(l:List Vt) (a:Int),l.Pairwise (fun a b=>a.slot<b.slot)→(∀x∈l,a≤x.slot∧x.slot≤39)→a≤40→(l.length:Int)≤40-a:=by
 intro l
 induction l with
 | nil=>intro a _ _ h;simp;omega
 | cons x l ih=>
  intro a hp hx ha
  rw[List.pairwise_cons]at hp
  have h1:=hx x (by simp)
  have:=ih (x.slot+1) hp.2 (fun y hy=>⟨by have:=hp.1 y hy;omega,(hx y (by simp[hy])).2⟩) (by omega)
  simp only[List.length_cons]
  omega
theorem U9.len {l:List Vt} (h:U9 l):l.length≤40:=by
 have:=aD l 0 h.2 (fun x hx=>⟨(h.1 x hx).1.1,(h.1 x hx).1.2⟩) (by omega)
 omega
theorem U9.nil:U9 []:=⟨fun x hx=>by (cases hx),.nil⟩
theorem U9.ins {l:List Vt} (h:U9 l) {v:Vt} (hv:Yb v):U9 (QF l v):=by
 unfold QF
 refine⟨fun x hx=>?_,?_⟩
 ·rcases List.mem_append.1 hx with hx|hx
  ·exact h.1 x (List.mem_filter.1 hx).1
  ·rcases List.mem_cons.1 hx with rfl|hx
   ·exact hv
   ·exact h.1 x (List.mem_filter.1 hx).1
 ·rw[List.pairwise_append,List.pairwise_cons]
  refine⟨h.2.sublist List.filter_sublist,⟨fun y hy=>by simpa using (List.mem_filter.1 hy).2,h.2.sublist List.filter_sublist⟩,fun x hx y hy=>?_⟩
  have h1:x.slot<v.slot:=by simpa using (List.mem_filter.1 hx).2
  rcases List.mem_cons.1 hy with rfl|hy
  ·exact h1
  ·have h2:v.slot<y.slot:=by simpa using (List.mem_filter.1 hy).2
   omega
theorem HP.zero:HP QG:=⟨.inr ⟨rfl,rfl⟩,U9.nil⟩
theorem ZR.I {b:XO} (h:ZR b):Og b:=⟨by have:=h.1.1;omega,h.1.2⟩
theorem HP.oV {a:Vi} (h:HP a):Og a.p:=by
 rcases h.bal with q|q
 ·exact q.I
 ·unfold Og;omega
structure Qj (C:List Cm) (l:Y9):Prop where
 kind:0≤l.kind∧l.kind≤7
 Ju:0≤l.Ju∧l.Ju<5
 to:0≤l.to∧l.to<5
 b:Og l.b
 slot:0≤l.v.slot∧l.v.slot<40
 vs:U9 l.vs
 cmd:l.kind=4→l.v.cm∈C
def Oh {β:Type} (m:Int) (l:List (Int × β)):Prop:=(l.map (·.1)).Nodup∧∀x∈l.map (·.1),0≤x∧x<m
theorem Oh.nil {β:Type} (m:Int):Oh m ([]:List (Int × β)):=⟨by simp,fun x hx=>by (cases hx)⟩
theorem Oh.ins {β:Type} {m:Int} {l:List (Int × β)} (h:Oh m l) {k:Int} (hk:0≤k∧k<m) (v:β):Oh m (ins l k v):=by
 obtain⟨h1,h2⟩:=DU (k:=k) (v:=v) h.1
 refine⟨h1,fun x hx=>?_⟩
 rcases h2 x hx with rfl|q
 ·exact hk
 ·exact h.2 x q
theorem iG:∀(m:Nat) (l:List Int),l.Nodup→(∀x∈l,0≤x∧x<(m:Int))→l.length≤m:=by
 intro m
 induction m with
 | zero=>
  intro l _ h
  cases l with
  | nil=>simp
  | cons x l=>have:=h x (by simp);omega
 | succ m ih=>
  intro l hn h
  have h1:=ih (l.erase (m:Int)) (hn.erase _) (fun x hx=>by
   have hx':=(List.Nodup.mem_erase_iff hn).1 hx
   have:=h x hx'.2
   have:x≠(m:Int):=hx'.1
   omega)
  have:l.length≤(l.erase (m:Int)).length+1:=by rw[List.length_erase];split<;>omega
  omega
theorem Oh.len {β:Type} {m:Nat} {l:List (Int × β)} (h:Oh (m:Int) l):l.length≤m:=by
 have:=iG m _ h.1 h.2
 simpa using this
structure Fm (r:Qn):Prop where
 b:Og r.b
 prom:Oh 5 r.prom
 vs:∀x∈r.prom,U9 x.2
 Tj:∀x∈r.Jv,Oh 5 x.2
def Zf1:gT→Prop
 | .G8 a to b vs=>HP a∧(0≤to∧to<5)∧Og b∧U9 vs
 | .G9 a to v=>HP a∧(0≤to∧to<5)∧Yb v
 | .own a vs _=>HP a∧U9 vs
structure Qo (C:List Cm) (i:Nat) (n:Nd):Prop where
 me:n.me=i
 Xj:0≤n.Xj∧n.Xj<5
 own:HP n.own
 heard:Og n.heard
 ZT:∀p,n.ZT=some p→Zf1 p
 Zl:∀r,n.Zl=some r→Fm r
 known:Oh 40 n.known
 log:∀j,j<n.log.length→(Xe n.known (j:Int)).isSome=true
 queue:n.queue.Nodup∧∀x∈n.queue,x∈C
 data:n.data.length≤100000
theorem Qo.Fo {C:List Cm} {i:Nat} {n:Nd} (h:Qo C i n):n.log.length≤40:=by
 have h1:=DR n.known 0 n.log.length (fun j hj=>by simpa using h.log j hj)
 have h2:=h.known.len (m:=40)
 omega
theorem OW {p:XO} {l:List Vt} {b:XO} (h:Yv p l b=0):ZR b:=by
 unfold Yv at h
 by_cases c1:XE p l≠0
 ·rw[if_pos c1]at h;cases h
 ·rw[if_neg c1]at h
  by_cases c2:¬ZR b
  ·rw[if_pos c2]at h;cases h
  ·simpa using c2
theorem HQ {p:XO} {l:List Vt} {x:Vt} (h:YX p l x=0):Yb x:=by
 unfold YX at h
 by_cases c1:XE p l≠0
 ·rw[if_pos c1]at h;cases h
 ·rw[if_neg c1]at h
  by_cases c2:¬Yb x
  ·rw[if_pos c2]at h;cases h
  ·simpa using c2
theorem Cc {l:List Nat} {n:Int} {k:Nat} (h:JD l n k=0):l.length+(k+5)≤100000:=by
 unfold JD at h
 by_cases c1:¬Y5 l n
 ·rw[if_pos c1]at h;cases h
 ·rw[if_neg c1]at h
  by_cases c2:100000<l.length+(k+5)
  ·rw[if_pos c2]at h;cases h
  ·omega
theorem Cd {l:List Nat} {n:Int} {b:XO} (h:Qv l n b=0):l.length+14≤100000:=by
 unfold Qv at h
 by_cases c1:¬Y5 l n
 ·rw[if_pos c1]at h;cases h
 ·rw[if_neg c1]at h
  by_cases c2:¬ZR b
  ·rw[if_pos c2]at h;cases h
  ·rw[if_neg c2]at h;exact Cc h
theorem oW {l:List Nat} {n:Int} {x:Vt} (h:Un l n x=0):l.length+38≤100000:=by
 unfold Un at h
 by_cases c1:¬Y5 l n
 ·rw[if_pos c1]at h;cases h
 ·rw[if_neg c1]at h
  by_cases c2:¬Yb x
  ·rw[if_pos c2]at h;cases h
  ·rw[if_neg c2]at h;exact Cc h
theorem dq (b:XO):(Y4 (Qw b)).length=14:=by rw[Sb];rfl
theorem vr (x:Vt):(Y4 (SU x)).length=38:=by rw[Sb];rfl
structure Tn (C:List Cm) (i:Nat) (n:Nd) (o:Out):Prop where
 nd:Qo C i o.n
 ls:∀l∈o.ls,Qj C l
 few:o.ls.length≤1
 ts:o.ts.length+o.n.waiting.length≤n.waiting.length
theorem Tn.same {C:List Cm} {i:Nat} {n:Nd} (h:Qo C i n):Tn C i n ⟨n,[],[]⟩:=⟨h,(fun l hl=>by cases hl),by simp,by simp⟩
theorem Tn.one {C:List Cm} {i:Nat} {n:Nd} (h:Qo C i n) {l:Y9} (hl:Qj C l):Tn C i n ⟨n,[l],[]⟩:=⟨h,fun x hx=>by
 have:x=l:=by simpa using hx
 rw[this];exact hl,by simp,by simp⟩
theorem aE {C:List Cm} {i:Nat} {n:Nd} {l:Y9} (hi:i<5) (h:Qo C i n) (hl:Qj C l):Tn C i n (Y2 n l):=by
 have FF:0≤(n.me:Int)∧(n.me:Int)<5:=by rw[h.me];omega
 have v0:0≤T9.slot∧T9.slot<40:=by decide
 unfold Y2
 by_cases c1:Yv n.own.p n.own.l l.b≠0
 ·rw[if_pos c1]
  exact Tn.one h ⟨by simp,FF,hl.Ju,h.own.oV,v0,U9.nil,fun e=>by cases e⟩
 rw[if_neg c1]
 have hb:ZR l.b:=OW (by simpa using c1)
 by_cases c2:n.own.p=l.b
 ·rw[if_pos c2]
  exact Tn.one h ⟨by simp,FF,hl.Ju,hl.b,v0,h.own.Jv,fun e=>by cases e⟩
 rw[if_neg c2]
 by_cases c3:Qv n.data n.Xs l.b≠0
 ·rw[if_pos c3];exact Tn.same h
 rw[if_neg c3]
 have hd:=Cd (by simpa using c3)
 refine⟨{ h with ZT:=?_,data:=?_ },(fun x hx=>by cases hx),by simp,by simp⟩
 ·intro p hp
  obtain rfl:=Option.some.inj hp
  exact⟨⟨.inl hb,h.own.Jv⟩,hl.Ju,hb.I,h.own.Jv⟩
 ·show (n.data++Y4 (Qw l.b)).length≤100000
  rw[List.length_append,dq];exact hd
theorem vu {C:List Cm} {i:Nat} {n:Nd} {l:Y9} (hi:i<5) (h:Qo C i n) (hl:Qj C l):Tn C i n (asked n l):=by
 have FF:0≤(n.me:Int)∧(n.me:Int)<5:=by rw[h.me];omega
 have v0:0≤T9.slot∧T9.slot<40:=by decide
 unfold asked
 by_cases c1:YX n.own.p n.own.l l.v≠0
 ·rw[if_pos c1]
  exact Tn.one h ⟨by simp,FF,hl.Ju,h.own.oV,v0,U9.nil,fun e=>by cases e⟩
 rw[if_neg c1]
 have hv:Yb l.v:=HQ (by simpa using c1)
 by_cases c2:l.v∈n.own.l
 ·rw[if_pos c2]
  exact Tn.one h ⟨by simp,FF,hl.Ju,by unfold Og JI;simp,hl.slot,U9.nil,fun e=>by cases e⟩
 rw[if_neg c2]
 by_cases c3:Un n.data n.Xs l.v≠0
 ·rw[if_pos c3];exact Tn.same h
 rw[if_neg c3]
 have hd:=oW (by simpa using c3)
 refine⟨{ h with ZT:=?_,data:=?_ },(fun x hx=>by cases hx),by simp,by simp⟩
 ·intro p hp
  obtain rfl:=Option.some.inj hp
  exact⟨⟨.inl hv.2.1,h.own.Jv.ins hv⟩,hl.Ju,hv⟩
 ·show (n.data++Y4 (SU l.v)).length≤100000
  rw[List.length_append,vr];exact hd
theorem oX {C:List Cm} {i:Nat} {n:Nd} {x:Cm} (h:Qo C i n) (hx:Xe n.known (n.log.length:Int)=some x):Qo C i (U6 n x)∧(Tf n x).length+(U6 n x).waiting.length≤n.waiting.length:=by
 refine⟨{ h with log:=?_,queue:=?_ },?_⟩
 ·intro j hj
  have hj':j<(n.log++[x]).length:=hj
  show (Xe n.known (j:Int)).isSome=true
  rw[List.length_append,List.length_singleton]at hj'
  by_cases e:j<n.log.length
  ·exact h.log j e
  ·have:j=n.log.length:=by omega
   subst this
   rw[hx];rfl
 ·exact⟨h.queue.1.sublist List.filter_sublist,fun y hy=>h.queue.2 y (List.mem_filter.1 hy).1⟩
 ·show (Tf n x).length+(n.waiting.erase x).length≤n.waiting.length
  unfold Tf
  by_cases c:x∈n.waiting
  ·rw[if_pos c,List.length_erase_of_mem c]
   have:=List.length_pos_of_mem c
   simp;omega
  ·rw[if_neg c,List.erase_of_not_mem c];simp
theorem iH {C:List Cm} {i:Nat}:∀(k:Nat) (n:Nd),Qo C i n→Qo C i (YN k n).1∧(YN k n).2.length+(YN k n).1.waiting.length≤n.waiting.length:=by
 intro k
 induction k with
 | zero=>intro n h;exact⟨h,by simp[YN]⟩
 | succ k ih=>
  intro n h
  unfold YN
  cases hx:Xe n.known (n.log.length:Int) with
  | none=>exact⟨h,by simp⟩
  | some x=>
   obtain⟨h1,h2⟩:=oX h hx
   obtain⟨h3,h4⟩:=ih _ h1
   refine⟨h3,?_⟩
   simp only[List.length_append]
   omega
theorem dx {C:List Cm} {i:Nat} {n:Nd} (h:Qo C i n) (s:Int) (x:Cm) (hs:0≤s∧s<40):Tn C i n (Uu n s x):=by
 have h1:Qo C i (Uo n s x):={ h with
  known:=h.known.ins hs x
  log:=fun j hj=>by
   show (Xe (ins n.known s x) (j:Int)).isSome=true
   rw[bO]
   split
   ·rfl
   ·exact h.log j hj }
 obtain⟨h2,h3⟩:=iH ((Uo n s x).known.length+1) (Uo n s x) h1
 exact⟨h2,(fun l hl=>by cases hl),by simp[Uu],h3⟩
theorem KF {β:Type}:∀{l:List (Int × β)} {k:Int} {v:β} {x:Int × β},x∈ins l k v→x.2=v∨x∈l:=by
 intro l
 induction l with
 | nil=>
  intro k v x hx
  left
  have:x=(k,v):=by simpa [ins] using hx
  rw[this]
 | cons y l ih=>
  intro k v x hx
  obtain⟨a,b⟩:=y
  unfold ins at hx
  split at hx
  ·rcases List.mem_cons.1 hx with rfl|hx
   ·exact .inl rfl
   ·exact .inr (by simp[hx])
  ·rcases List.mem_cons.1 hx with rfl|hx
   ·exact .inr (by simp)
   ·rcases ih hx with q|q
    ·exact .inl q
    ·exact .inr (by simp[q])
theorem aF {C:List Cm} {i:Nat} {n:Nd} {l:Y9} (hi:i<5) (h:Qo C i n) (hl:Qj C l):Tn C i n (YB n l):=by
 unfold YB
 cases hr:n.Zl with
 | none=>exact Tn.same h
 | some r=>
  have R:=h.Zl r hr
  have hs:∀r',(Mr n r l).Zl=some r'→Fm r':=by
   intro r' hr'
   obtain rfl:=Option.some.inj hr'
   refine⟨R.b,R.prom,R.vs,fun x hx=>?_⟩
   rcases KF hx with q|q
   ·rw[q]
    unfold TE
    refine Oh.ins ?_ hl.Ju ()
    cases hk:Xe r.Jv l.v.slot with
    | none=>exact Oh.nil 5
    | some s=>exact R.Tj _ (MG hk)
   ·exact R.Tj x q
  have hv:Qo C i (Mr n r l):={ h with Zl:=hs }
  simp only
  split
  ·split
   ·refine⟨{ h with Zl:=fun r' hr'=>?_ },(fun x hx=>by cases hx),by simp,by simp[ZaC]⟩
    obtain rfl:=Option.some.inj hr'
    refine⟨R.b,R.prom.ins hl.Ju l.vs,fun x hx=>?_,R.Tj⟩
    rcases KF hx with q|q
    ·rw[q];exact hl.vs
    ·exact R.vs x q
   ·exact Tn.same h
  ·split
   ·exact Tn.same h
   ·split
    ·have:=dx hv l.v.slot l.v.cm hl.slot
     exact⟨this.nd,this.ls,this.few,this.ts⟩
    ·exact⟨hv,(fun x hx=>by cases hx),by simp,by simp[Mr]⟩
theorem yg {C:List Cm} {i:Nat} {n:Nd} {x:Cm} (h:Qo C i n) (hx:x∈C):Qo C i (add n x):=by
 unfold add
 split
 ·exact h
 ·rename_i q
  refine { h with queue:=⟨?_,fun y hy=>?_⟩ }
  ·show (n.queue++[x]).Nodup
   rw[List.nodup_append]
   refine⟨h.queue.1,by simp,fun a ha b hb e=>?_⟩
   have:b=x:=by simpa using hb
   exact q (.inl (by rw[←this,←e];exact ha))
  ·have hy:y∈n.queue++[x]:=hy
   rcases List.mem_append.1 hy with hy|hy
   ·exact h.queue.2 y hy
   ·have:y=x:=by simpa using hy
    rw[this];exact hx
theorem dy {C:List Cm} {i:Nat} {n:Nd} {l:Y9} (h:Qo C i n) (hl:Qj C l):Qo C i (notes n l):=by
 unfold notes
 split
 ·exact { h with heard:=hl.b }
 ·exact h
theorem vw {C:List Cm} {i:Nat} {n:Nd} {l:Y9} (hi:i<5) (h:Qo C i n) (hl:Qj C l):Tn C i n (WH n l):=by
 have FF:0≤(n.me:Int)∧(n.me:Int)<5:=by rw[h.me];omega
 have hn:=dy h hl
 have hw:(notes n l).waiting=n.waiting:=by unfold notes;split<;>rfl
 unfold WH
 split
 ·next y _=>
  refine⟨hn,fun x hx=>?_,by simp,by simp[hw]⟩
  have:x=⟨6,n.me,l.Ju,JI,TD l.v.slot JI y,[]⟩:=by simpa using hx
  rw[this]
  exact⟨by simp,FF,hl.Ju,by unfold Og JI;simp,hl.slot,U9.nil,fun e=>by cases e⟩
 ·exact⟨hn,(fun x hx=>by cases hx),by simp,by simp[hw]⟩
theorem Ce {C:List Cm} {i:Nat} {n:Nd} {l:Y9} (hi:i<5) (h:Qo C i n) (hl:Qj C l):Tn C i n (handle n l):=by
 have hw:(notes n l).waiting=n.waiting:=by unfold notes;split<;>rfl
 unfold handle
 split
 ·exact aE hi h hl
 split
 ·exact aF hi h hl
 split
 ·exact vu hi h hl
 split
 ·rename_i e
  refine⟨yg h (hl.cmd e),(fun x hx=>by cases hx),by simp,?_⟩
  have:(add n l.v.cm).waiting=n.waiting:=by unfold add;split<;>rfl
  simp[this]
 split
 ·exact vw hi h hl
 split
 ·exact dx h _ _ hl.slot
 ·exact⟨dy h hl,(fun x hx=>by cases hx),by simp,by simp[hw]⟩
theorem Qo.inbox {C:List Cm} {i:Nat} {n:Nd} (h:Qo C i n) (k:List Y9):Qo C i { n with inbox:=k }:={ h with }
theorem dz {C:List Cm} {i:Nat} (hi:i<5):∀(k:List Y9) (n:Nd),Qo C i n→(∀l∈k,Qj C l) →
  Qo C i (drain n k).n∧(∀l∈(drain n k).ls,Qj C l)∧(∀l∈(drain n k).n.inbox,Qj C l)∧(drain n k).ls.length+(drain n k).n.inbox.length≤k.length∧(drain n k).ts.length+(drain n k).n.waiting.length≤n.waiting.length:=by
 intro k
 induction k with
 | nil=>
  intro n h _
  unfold drain
  exact⟨h.inbox [],(fun x hx=>by cases hx),(fun x hx=>by cases hx),by simp,by simp⟩
 | cons l k ih=>
  intro n h hk
  unfold drain
  split
  ·exact⟨h.inbox _,(fun x hx=>by cases hx),hk,by simp,by simp⟩
  ·have o:=Ce hi (h.inbox k) (hk l (by simp))
   obtain⟨h1,h2,h3,h4,h5⟩:=ih _ o.nd (fun x hx=>hk x (by simp[hx]))
   have ots:=o.ts
   have of:=o.few
   refine⟨h1,fun x hx=>?_,h3,?_,?_⟩
   ·rcases List.mem_append.1 hx with hx|hx
    ·exact o.ls x hx
    ·exact h2 x hx
   ·simp only[List.length_append,List.length_cons];omega
   ·simp only[List.length_append]
    have:({ n with inbox:=k }:Nd).waiting=n.waiting:=rfl
    rw[this]at ots
    omega
theorem SM:∀{l C:List Cm},l.Nodup→(∀x∈l,x∈C)→l.length≤C.length:=by
 intro l
 induction l with
 | nil=>intro C _ _;simp
 | cons x l ih=>
  intro C hn hs
  rw[List.nodup_cons]at hn
  have hx:=hs x (by simp)
  have h1:=ih (C:=C.erase x) hn.2 (fun y hy=>by
   have Yr:y≠x:=fun e=>hn.1 (by rw[←e];exact hy)
   exact (List.mem_erase_of_ne Yr).2 (hs y (by simp[hy])))
  rw[List.length_erase_of_mem hx]at h1
  have:=List.length_pos_of_mem hx
  simp only[List.length_cons]
  omega
theorem Qo.hand {C:List Cm} {i:Nat} {n:Nd} {l:Y9} (h:Qo C i n) (hl:Qj C l) (hC:C.length≤100000) (hw:n.waiting.length≤100000) {f t:Nat} (hf:f≤100000000000) (ht:t≤1000000):av n l f t:=by
 have OT:=h.Fo
 have jk:=h.known.len (m:=40)
 have hq:n.queue.length≤C.length:=SM h.queue.1 h.queue.2
 refine⟨hl.kind,by omega,by have:=h.own.Jv.len;omega,by have:=h.data;omega,by omega,by omega,by omega,by omega,by omega,fun r s hr=>?_⟩
 cases hk:Xe r.Jv s with
 | none=>simp
 | some x=>
  have:=(h.Zl r hr).Tj _ (MG hk)
  have:x.length≤5:=this.len (m:=5)
  simp only[Option.getD_some]
  omega
theorem Qo.dut {C:List Cm} {i:Nat} {n:Nd} (h:Qo C i n) (hC:C.length≤100000) {f:Nat} (hf:f≤100000000000):oQ n f:=by
 have OT:=h.Fo
 have hq:n.queue.length≤C.length:=SM h.queue.1 h.queue.2
 refine⟨by omega,by have:=h.own.Jv.len;omega,by have:=h.data;omega,fun r hr=>?_,by omega,by omega,h.Xj⟩
 have R:=h.Zl r hr
 have hp:r.prom.length≤5:=R.prom.len (m:=5)
 refine⟨fun x hx=>by have:=(R.vs x hx).len;omega,fun x hx v hv=>?_,by omega⟩
 have:=((R.vs x hx).1 v hv).1.2
 omega
theorem oY {C:List Cm} {i:Nat} (hi:i<5) (hC:C.length≤100000):∀(k:List Y9) (n:Nd),Qo C i n→(∀l∈k,Qj C l)→n.waiting.length≤100000→∀f t,f+k.length≤100000000000→t+n.waiting.length≤1000000→SL n k f t:=by
 intro k
 induction k with
 | nil=>intro n _ _ _ f t _ _;exact trivial
 | cons l k ih=>
  intro n h hk hw f t hf ht
  simp only[List.length_cons]at hf
  unfold SL
  by_cases hp:n.ZT.isSome=true
  ·exact .inl hp
  ·have o:=Ce hi (h.inbox k) (hk l (by simp))
   have ots:=o.ts
   have of:=o.few
   have:({ n with inbox:=k }:Nd).waiting=n.waiting:=rfl
   rw[this]at ots
   exact .inr ⟨(h.inbox k).hand (hk l (by simp)) hC hw (by omega) (by omega),ih _ o.nd (fun x hx=>hk x (by simp[hx])) (by omega) _ _ (by omega) (by omega)⟩
theorem oZ {C:List Cm} {i:Nat} {n:Nd} (hi:i<5) (hC:C.length≤100000) (h:Qo C i n) (hk:∀l∈n.inbox,Qj C l) (hw:n.waiting.length≤100000) {f t:Nat} (hf:f+n.inbox.length≤100000000000) (ht:t+n.waiting.length≤1000000):ax n f t:=by
 obtain⟨h1,h2,h3,h4,h5⟩:=dz hi n.inbox n h hk
 exact⟨by have:=h.data;omega,by omega,fun _=>oY hi hC n.inbox n h hk hw f t hf ht,fun _ _=>h1.dut hC (by omega)⟩
theorem vx {n:Nd} {r:Qn} {x:Cm} (R:Fm r):Fm (VH n r x):=by
 unfold VH
 split
 ·exact⟨R.b,R.prom,R.vs,R.Tj⟩
 ·exact R
theorem iI {n:Nd}:∀(l:List Cm) (r:Qn),Fm r→Fm (JJ n r l):=by
 intro l
 induction l with
 | nil=>intro r R;exact R
 | cons x l ih=>intro r R;exact ih _ (vx R)
theorem vy {n:Nd} {r:Qn} (R:Fm r):Fm (Kn n r):=by
 unfold Kn
 refine iI _ _ ?_
 split
 ·exact R
 ·exact⟨R.b,R.prom,R.vs,R.Tj⟩
theorem Fp:Og JI:=by unfold Og JI;simp
theorem Za2 {C:List Cm} {i:Nat} {n:Nd} {r:Qn} (hi:i<5) (h:Qo C i n) (R:Fm r):Qo C i (QH n r).n∧(∀l∈(QH n r).ls,Qj C l)∧(QH n r).n.inbox=n.inbox∧(QH n r).n.waiting=n.waiting:=by
 have FF:0≤(n.me:Int)∧(n.me:Int)<5:=by rw[h.me];omega
 have v0:0≤T9.slot∧T9.slot<40:=by decide
 unfold QH
 split
 ·split
  ·exact⟨h,(fun x hx=>by cases hx),rfl,rfl⟩
  ·rename_i hd
   have hd:=Cd (by simpa using hd)
   refine⟨{ h with ZT:=?_,data:=?_ },(fun x hx=>by cases hx),rfl,rfl⟩
   ·intro p hp
    obtain rfl:=Option.some.inj hp
    by_cases c:Yv n.own.p n.own.l r.b=0
    ·simp only[c,if_true]
     exact⟨⟨.inl (OW c),h.own.Jv⟩,h.own.Jv⟩
    ·simp only[c,if_false]
     exact⟨HP.zero,U9.nil⟩
   ·show (n.data++Y4 (Qw r.b)).length≤100000
    rw[List.length_append,dq];exact hd
 ·split
  ·refine⟨h,fun l hl=>?_,rfl,rfl⟩
   unfold Kl at hl
   simp only[List.mem_flatMap,List.mem_range]at hl
   obtain⟨m,hm,hl⟩:=hl
   split at hl
   ·have:l=⟨0,n.me,m,r.b,T9,[]⟩:=by simpa using hl
    rw[this]
    exact⟨by simp,FF,by simp only;omega,R.b,v0,U9.nil,fun e=>by cases e⟩
   ·cases hl
  ·refine⟨{ h with Zl:=fun r' hr'=>?_ },fun l hl=>?_,rfl,rfl⟩
   ·obtain rfl:=Option.some.inj hr'
    exact vy R
   ·unfold Km at hl
    simp only[List.mem_flatMap,List.mem_range]at hl
    obtain⟨s,hs,hl⟩:=hl
    unfold W0 at hl
    split at hl
    ·split at hl
     ·simp only[List.mem_flatMap,List.mem_range]at hl
      obtain⟨m,hm,hl⟩:=hl
      unfold Oa at hl
      split at hl
      ·next x _ _ _=>
       have:l=⟨2,n.me,m,JI,TD s (Kn n r).b x,[]⟩:=by simpa using hl
       rw[this]
       exact⟨by simp,FF,by simp only;omega,Fp,by simp only[TD];omega,U9.nil,fun e=>by cases e⟩
      ·cases hl
     ·cases hl
    ·cases hl
theorem vz {C:List Cm} {i:Nat} {n:Nd} (h:Qo C i n):Qo C i (still n)∧(still n).inbox=n.inbox∧(still n).waiting=n.waiting:=by
 unfold still
 split
 ·split
  ·exact⟨{ h with Zl:=fun r hr=>by cases hr },rfl,rfl⟩
  ·exact⟨h,rfl,rfl⟩
 ·exact⟨h,rfl,rfl⟩
theorem vA {C:List Cm} {i:Nat} {n:Nd} (hi:i<5) (h:Qo C i n):Qo C i (Yw n).n∧(∀l∈(Yw n).ls,Qj C l)∧(Yw n).n.inbox=n.inbox∧(Yw n).n.waiting=n.waiting:=by
 have FF:0≤(n.me:Int)∧(n.me:Int)<5:=by rw[h.me];omega
 unfold Yw
 split
 ·next r hr=>exact Za2 hi h (h.Zl r hr)
 ·split
  ·rename_i q
   refine⟨h,fun l hl=>?_,rfl,rfl⟩
   unfold Sf at hl
   simp only[List.mem_map]at hl
   obtain⟨x,hx,rfl⟩:=hl
   have hb:ZR n.own.p:=by
    rcases h.own.bal with e|e
    ·exact e
    ·have:=q.1;omega
   exact⟨by simp,FF,by simp only;have:=hb.2;omega,Fp,by simp[TD],U9.nil,fun _=>h.queue.2 x hx⟩
  ·exact⟨h,(fun x hx=>by cases hx),rfl,rfl⟩
theorem vB {C:List Cm} {i:Nat} {n:Nd} (h:Qo C i n):Og (Uv n):=by
 unfold Uv;split
 ·exact h.heard
 ·exact h.own.oV
theorem Za3 {C:List Cm} {i:Nat} {n:Nd} (hi:i<5) (hC:C.length≤100000) (h:Qo C i n):Qo C i (VI n).n∧(∀l∈(VI n).ls,Qj C l)∧(VI n).n.inbox=n.inbox∧(VI n).n.waiting=n.waiting∧(VI n).ls.length≤100201∧(VI n).ts=[]:=by
 obtain⟨s1,s2,s3⟩:=vz h
 obtain⟨d1,d2,d3,d4⟩:=vA hi s1
 have hq:(still n).queue.length≤C.length:=SM s1.queue.1 s1.queue.2
 have hls:=D3 (still n)
 unfold VI
 split
 ·exact⟨d1,d2,by rw[d3,s2],by rw[d4,s3],by omega,(RP _).2.2.2.2.2⟩
 ·have tt:0≤((Yw (still n)).n.Xj+1)%5∧((Yw (still n)).n.Xj+1)%5<5:=by omega
  have t1:Qo C i (Qt (Yw (still n)).n):={ d1 with Xj:=tt }
  have FF:0≤((Qt (Yw (still n)).n).me:Int)∧((Qt (Yw (still n)).n).me:Int)<5:=by rw[t1.me];omega
  refine⟨t1,fun l hl=>?_,by show (Yw (still n)).n.inbox=_;rw[d3,s2],by show (Yw (still n)).n.waiting=_;rw[d4,s3],?_,rfl⟩
  ·rcases List.mem_append.1 hl with hl|hl
   ·exact d2 l hl
   ·unfold Sg at hl
    split at hl
    ·rename_i q
     have:l=⟨5,(Qt (Yw (still n)).n).me,(Qt (Yw (still n)).n).Xj,Uv (Qt (Yw (still n)).n),TD (Qt (Yw (still n)).n).log.length JI qE,[]⟩:=by simpa using hl
     rw[this]
     exact⟨by simp,FF,t1.Xj,vB t1,by simp only[TD];have:=q.2;omega,U9.nil,fun e=>by cases e⟩
    ·cases hl
  ·have:(Sg (Qt (Yw (still n)).n)).length≤1:=by unfold Sg;split<;>simp
   simp only[List.length_append]
   omega
theorem ph {C:List Cm} {i:Nat} {n:Nd} (h:Qo C i n):Qo C i (synced n):=by
 refine { h with ZT:=(fun p hp=>by cases hp),data:=?_ }
 show (if Y5 n.data n.Xs then n.data else []).length≤100000
 split
 ·exact h.data
 ·simp
theorem pj {C:List Cm} {i:Nat} {n:Nd} {p:gT} (hi:i<5) (h:Qo C i n) (P:Zf1 p):Qo C i (finish n p).n∧(∀l∈(finish n p).ls,Qj C l)∧(finish n p).n.inbox=n.inbox∧(finish n p).n.waiting=n.waiting∧(finish n p).ls.length≤1∧(finish n p).ts=[]:=by
 have FF:0≤(n.me:Int)∧(n.me:Int)<5:=by rw[h.me];omega
 have v0:0≤T9.slot∧T9.slot<40:=by decide
 cases p with
 | G8 a to b vs=>
  obtain⟨p1,p2,p3,p4⟩:=P
  refine⟨{ h with own:=p1 },fun l hl=>?_,rfl,rfl,by simp[finish],rfl⟩
  have:l=⟨1,n.me,to,b,T9,vs⟩:=by simpa [finish] using hl
  rw[this]
  exact⟨by simp,FF,p2,p3,v0,p4,fun e=>by cases e⟩
 | G9 a to v=>
  obtain⟨p1,p2,p3⟩:=P
  refine⟨{ h with own:=p1 },fun l hl=>?_,rfl,rfl,by simp[finish],rfl⟩
  have:l=⟨3,n.me,to,JI,v,[]⟩:=by simpa [finish] using hl
  rw[this]
  exact⟨by simp,FF,p2,Fp,by have:=p3.1;simp only;omega,U9.nil,fun e=>by cases e⟩
 | own a vs cur=>
  obtain⟨p1,p2⟩:=P
  refine⟨{ h with own:=p1,Zl:=fun r hr=>?_ },(fun x hx=>by cases hx),rfl,rfl,by simp[finish],rfl⟩
  have hr:(if cur=true then n.Zl.map (fun r=>{ r with prom:=ins r.prom n.me vs }) else n.Zl)=some r:=hr
  split at hr
  ·rw[Option.map_eq_some_iff]at hr
   obtain⟨r0,h0,rfl⟩:=hr
   have R:=h.Zl r0 h0
   refine⟨R.b,R.prom.ins FF vs,fun x hx=>?_,R.Tj⟩
   rcases KF hx with q|q
   ·rw[q];exact p2
   ·exact R.vs x q
  ·exact h.Zl r hr
theorem Za4 {C:List Cm} {i:Nat} {n:Nd} (hi:i<5) (hC:C.length≤100000) (h:Qo C i n) (hk:∀l∈n.inbox,Qj C l) :
  Qo C i (step n).n∧(∀l∈(step n).ls,Qj C l)∧(∀l∈(step n).n.inbox,Qj C l)∧(step n).ls.length+(step n).n.inbox.length≤n.inbox.length+100201∧(step n).ts.length+(step n).n.waiting.length≤n.waiting.length:=by
 unfold step
 split
 ·cases hp:n.ZT with
  | some p=>
   obtain⟨f1,f2,f3,f4,f5,f6⟩:=pj hi (ph h) (h.ZT p hp)
   refine⟨f1,f2,by simp only;rw[f3];exact hk,?_,?_⟩
   ·simp only;rw[f3];show _+n.inbox.length≤_;omega
   ·simp only;rw[f4,f6];show 0+n.waiting.length≤_;omega
  | none=>
   obtain⟨d1,d2,d3,d4,d5⟩:=dz hi n.inbox n h hk
   simp only
   split
   ·exact⟨d1,d2,d3,by omega,d5⟩
   ·obtain⟨e1,e2,e3,e4,e5,e6⟩:=Za3 hi hC d1
    refine⟨e1,fun l hl=>?_,by simp only;rw[e3];exact d3,?_,?_⟩
    ·rcases List.mem_append.1 hl with hl|hl
     ·exact d2 l hl
     ·exact e2 l hl
    ·simp only[List.length_append];rw[e3];omega
    ·simp only;rw[e4,e6,List.append_nil];exact d5
 ·exact⟨h,(fun x hx=>by cases hx),hk,by simp,by simp⟩
theorem Za5 {a a':Vi} {b:List Nat} (h:Jp a b=some a') (ha:HP a):HP a':=by
 unfold Jp at h
 split at h
 ·split at h
  ·rename_i q
   cases h
   exact⟨.inl (OW q),ha.Jv⟩
  ·cases h
 ·split at h
  ·split at h
   ·cases h
   ·split at h
    ·rename_i q
     cases h
     have hv:=HQ q
     exact⟨.inl hv.2.1,ha.Jv.ins hv⟩
    ·cases h
  ·cases h
theorem vC (l:List Nat):∀(f:Nat) (a:Vi) (k:Nat),HP a→HP (Ko l f a k).1:=by
 intro f
 induction f with
 | zero=>intro a k h;exact h
 | succ f ih=>
  intro a k h
  unfold Ko
  cases hs:Xz l a k with
  | none=>exact h
  | some x=>
   refine ih _ _ ?_
   unfold Xz at hs
   split at hs
   ·rw[Option.map_eq_some_iff]at hs
    obtain⟨y,hy,rfl⟩:=hs
    exact Za5 hy h
   ·cases hs
theorem po (l:List Nat):HP (Sh l).1:=vC l _ _ _ HP.zero
theorem MP {C:List Cm} {i:Nat} {up:Bool} {data:List Nat} {Xs:Int} {own:Vi} (hd:data.length≤100000) (ho:HP own):Qo C i (blank i up data Xs own):=
 ⟨rfl,by unfold blank;simp,ho,Fp,(fun p hp=>by cases hp),(fun r hr=>by cases hr),Oh.nil 40,(fun j hj=>by cases hj),⟨by simp[blank],(fun x hx=>by cases hx)⟩,hd⟩
theorem iJ {C:List Cm} {i:Nat} {n:Nd} (h:Qo C i n) (Zc:Int):Qo C i (crashed i n Zc)∧((crashed i n Zc).inbox=[]∧(crashed i n Zc).waiting=[]∨crashed i n Zc=n):=by
 unfold crashed
 split
 ·split
  ·refine⟨MP ?_ HP.zero,.inl ⟨rfl,rfl⟩⟩
   have:=h.data
   rw[List.length_take];omega
  ·exact⟨MP (by simp) HP.zero,.inl ⟨rfl,rfl⟩⟩
 ·exact⟨h,.inr rfl⟩
theorem iK {C:List Cm} {i:Nat} {n:Nd} (h:Qo C i n):Qo C i (started i n)∧((started i n).inbox=[]∧(started i n).waiting=[]∨started i n=n):=by
 unfold started
 split
 ·exact⟨h,.inr rfl⟩
 ·refine⟨MP ?_ ?_,.inl ⟨rfl,rfl⟩⟩
  ·unfold ab
   have:=h.data
   split
   ·rw[List.length_take];omega
   ·simp
  ·split
   ·exact po _
   ·exact HP.zero
theorem Za6 {C:List Cm} {i:Nat} {n:Nd} (h:Qo C i n):Qo C i (lead n)∧(lead n).inbox=n.inbox∧(lead n).waiting=n.waiting:=by
 unfold lead
 split
 ·exact⟨h,rfl,rfl⟩
 ·rename_i q
  refine⟨{ h with ZT:=?_,Zl:=fun r hr=>?_ },rfl,rfl⟩
  ·intro p hp
   have hp:Xk n.ZT=some p:=hp
   cases hn:n.ZT with
   | none=>rw[hn]at hp;cases hp
   | some p0=>
    have P:=h.ZT p0 hn
    rw[hn]at hp
    cases p0 with
    | G8 a to b vs=>cases hp;exact P
    | G9 a to v=>cases hp;exact P
    | own a vs cur=>cases hp;exact P
  ·obtain rfl:=Option.some.inj hr
   refine⟨⟨?_,?_⟩,Oh.nil 5,(fun x hx=>by cases hx),(fun x hx=>by cases hx)⟩
   ·have h1:=h.own.oV.1
    show 0≤(Qe n).r
    unfold Qe
    simp only
    split<;>omega
   ·have:¬65536<(Qe n).r:=fun e=>q (.inr e)
    show (Qe n).r≤65536
    omega
def RQ (f:Nat→Nat):Nat:=f 0+f 1+f 2+f 3+f 4
theorem pA (f:Nat→Nat) (i a:Nat) (hi:i<5):RQ (fun j=>if j=i then a else f j)+f i=RQ f+a:=by
 unfold RQ
 match i,hi with
 | 0,_=>simp;omega
 | 1,_=>simp;omega
 | 2,_=>simp;omega
 | 3,_=>simp;omega
 | 4,_=>simp;omega
theorem dA (f:Nat→Nat) (i:Nat) (hi:i<5):f i≤RQ f:=by
 unfold RQ
 match i,hi with
 | 0,_=>omega
 | 1,_=>omega
 | 2,_=>omega
 | 3,_=>omega
 | 4,_=>omega
structure WI (C:List Cm) (k:Nat) (w:Wd):Prop where
 nd:∀i,i<5→Qo C i (w.nodes i)
 aG:∀i,i<5→∀l∈(w.nodes i).inbox,Qj C l
 iL:∀l∈w.Zj,Qj C l
 room:w.Zj.length+RQ (fun i=>(w.nodes i).inbox.length)≤k*100300
 wait:w.told.length+RQ (fun i=>(w.nodes i).waiting.length)≤k
 bad:∀i,0≤w.bad i∧w.bad i≤k
theorem Oi (w:Wd) (i:Nat) (n:Nd) (g:Nd→Nat) (hi:i<5):RQ (fun j=>g (if j=i then n else w.nodes j))+g (w.nodes i)=RQ (fun j=>g (w.nodes j))+g n:=by
 have:=pA (fun j=>g (w.nodes j)) i (g n) hi
 have e:(fun j=>g (if j=i then n else w.nodes j))=(fun j=>if j=i then g n else g (w.nodes j)):=by
  funext j;split<;>rfl
 rw[e];exact this
theorem WI.out {C:List Cm} {k:Nat} {w:Wd} (h:WI C k w) {i:Nat} (hi:i<5) {o:Out} (h1:Qo C i o.n) (h2:∀l∈o.ls,Qj C l) (h3:∀l∈o.n.inbox,Qj C l) (h4:o.ls.length+o.n.inbox.length≤(w.nodes i).inbox.length+100300) (h5:o.ts.length+o.n.waiting.length≤(w.nodes i).waiting.length+1):WI C (k+1) (w.out i o):=by
 unfold Wd.out
 refine⟨fun j hj=>?_,fun j hj l hl=>?_,fun l hl=>?_,?_,?_,fun j=>by have:=h.bad j;simp only;omega⟩
 ·by_cases e:j=i
  ·subst e;simpa using h1
  ·simp only[if_neg e];exact h.nd j hj
 ·by_cases e:j=i
  ·subst e;simp only[if_true]at hl;exact h3 l hl
  ·simp only[if_neg e]at hl;exact h.aG j hj l hl
 ·rcases List.mem_append.1 hl with hl|hl
  ·exact h.iL l hl
  ·exact h2 l hl
 ·have:=Oi w i o.n (fun n=>n.inbox.length) hi
  have hr:=h.room
  simp only[List.length_append]at this ⊢
  omega
 ·have:=Oi w i o.n (fun n=>n.waiting.length) hi
  have hr:=h.wait
  simp only[List.length_append]at this ⊢
  omega
theorem MQ (w:Wd) (i:Nat) (n:Nd):w.set i n=w.out i ⟨n,[],[]⟩:=by
 unfold Wd.set Wd.out
 simp
theorem WI.more {C:List Cm} {k:Nat} {w:Wd} (h:WI C k w):WI C (k+1) w:=
 ⟨h.nd,h.aG,h.iL,Nat.le_trans h.room (Nat.mul_le_mul_right _ (Nat.le_succ k)),Nat.le_trans h.wait (Nat.le_succ k),fun i=>⟨(h.bad i).1,by have:=(h.bad i).2;omega⟩⟩
theorem WI.ok {C:List Cm} {k:Nat} {w:Wd} (h:WI C k w) (hC:C.length≤100000) (hk:k≤100000):WOk w:=by
 have hr:=h.room
 have hw:=h.wait
 have Rp:∀i,i<5→(w.nodes i).inbox.length+w.Zj.length≤10030000000:=fun i hi=>by
  have:(w.nodes i).inbox.length≤_:=dA (fun i=>(w.nodes i).inbox.length) i hi
  omega
 have MT:∀i,i<5→(w.nodes i).waiting.length+w.told.length≤100000:=fun i hi=>by
  have:(w.nodes i).waiting.length≤_:=dA (fun i=>(w.nodes i).waiting.length) i hi
  omega
 refine⟨fun i hi=>(h.nd i hi).me,fun i hi=>oZ hi hC (h.nd i hi) (h.aG i hi) (by have:=MT i hi;omega) (by have:=Rp i hi;omega) (by have:=MT i hi;omega),fun i hi=>?_,fun i hi=>?_,fun i hi=>?_,fun i hi=>?_,fun i hi=>?_,?_,fun i hi=>?_,fun i hi=>?_,fun i hi r hr=>?_,fun l hl=>(h.iL l hl).to,?_⟩
 ·have:=SM (h.nd i hi).queue.1 (h.nd i hi).queue.2;omega
 ·have:=(h.nd i hi).Fo;omega
 ·have:=MT i hi;omega
 ·have:=Rp i hi;omega
 ·have:=(h.nd i hi).data;omega
 ·have:=MT 0 (by omega);omega
 ·have:=h.bad i;omega
 ·have h1:=(h.nd i hi).own.oV
  have h2:=(h.nd i hi).heard
  unfold Og at h1 h2
  omega
 ·have h1:=((h.nd i hi).Zl r hr).b
  unfold Og at h1
  omega
 ·have:=Rp 0 (by omega);omega
set_option maxHeartbeats 8000000 in
theorem Za7 (T:World) (h:Hp) (o:Ow) (wb:Nat) (Z7:Nat→Nat) (YC:WA) (w:Wd) (a:Ac) (dv:Value) (d:Ug o h) (A:Ja o h wb Z7 YC w) (ok:WOk w) (hk:1≤a.kind∧a.kind≤9) (hi:a.node<5) (iv:Ti o h dv a.data) (AH:a.data.length≤140737488355328) (tb:Fb o h) :
  Zd Tryz.prog T 58 #[Zn wb,.agg (Vj a.kind a.node a.at' a.Zc dv).toArray] h fun v' h'=>∃o' Xn Zo6,Kp Ve o h o' h'∧Ja o' h' wb Zo6 Xn (act w a):=by
 obtain⟨pd,cd,hdv,Jg⟩:=iv.1.fits
 have DC:WO dv:=by rw[hdv];exact Jg
 subst hdv
 refine Zd.Zi (args:=[_,_]) Tryz.func58 rfl rfl rfl rfl ?_
 unfold Zn Vj
 obtain⟨h1,YF⟩:=Zu (h.push (.cells (Vj a.kind a.node a.at' a.Zc (.slice pd a.data.length cd)).toArray 36):Hp)
 have k1:Kp JK o h o h1:=by rw[YF];exact ZW d _
 have x3:ZL o h1 h.size (.cells (Vj a.kind a.node a.at' a.Zc (.slice pd a.data.length cd)).toArray 36):=⟨d _ (Nat.le_refl _),by rw[YF];exact Zb⟩
 have e0:=YF.symm
 unfold Vj at e0
 have A1:=A.still k1
 have qp:=tb.Zc k1
 have R1:=YT A1.wd.ZD.2
 have Rn:=R1.nodes
 obtain⟨b,off,c,hn,hc5,hb,RO⟩:=U8 A1.wd
 rw[hn]at Rn
 have Ff:=Za A1.wd.ZD.2
 have q0:hc h1 ⟨h.size,0,none⟩=some (.int .i64 a.kind):=Zg x3.2
 have q1:hc h1 ⟨h.size,1,none⟩=some (.int .i64 a.node):=Zg x3.2
 have q2:hc h1 ⟨h.size,2,none⟩=some (.int .i64 a.at'):=Zg x3.2
 have q3:hc h1 ⟨h.size,3,none⟩=some (.int .i64 a.Zc):=Zg x3.2
 have q4:hc h1 ⟨h.size,4,none⟩=some (.slice pd a.data.length cd):=Zg x3.2
 have l3:=Za x3.2
 have ri:=RO a.node hi
 unfold Zn at ri
 have cJ:(a.node:Int)<5:=by omega
 obtain⟨na,N1⟩:=A1.nd a.node hi
 have Vf:=Za N1.ZD.2
 have uJ:=iv.Zc k1
 have Kz:a.kind=1∨a.kind=2∨a.kind=3∨(a.kind=4∨a.kind=5∨a.kind=6)∨a.kind=7∨a.kind=8∨a.kind=9:=by omega
 rcases Kz with e|e|e|e|e|e|e
 ·-- a command
  have ea:act w a=QV w a.node a.data:=by unfold act;rw[if_pos e]
  rw[ea]
  rw[e]at q0
  have cs:=iE T h1 o wb Z7 YC w a.node a.data (.slice pd a.data.length cd) k1.ZV A1 hi (ok.me _ hi) uJ DC AH qp (by have:=ok.queue _ hi;omega) (by have:=ok.log _ hi;omega) (by have:=ok.waiting _ hi;omega) (by have:=ok.told;omega) (ok.bad _ hi)
  unfold Zn at cs
  simp -implicitDefEqProofs only[go_sem,↓reduceIte,e0,q0]
  refine VS.z (h1.size) [11] (.p 0 (.p 1 (.p 2 (.p 3 (.q 4 (.p 5 (.q 6 (.p 7 (.q 8 (.p 9 (.q 10 (.w 11 .nil)))))))))))) mixed (by kernel_rfl) ?_
  simp -implicitDefEqProofs only[go_sem,↓reduceIte,Rn,q1,q4,Ff,l3,hb,cJ,ri]
  refine cs.use ?_
  rintro v' g ⟨o',Xn,kk,A'⟩
  simp -implicitDefEqProofs only[go_sem,↓reduceIte]
  exact⟨o',Xn,Z7,(Yc k1).trans kk,A'⟩
 ·-- to lead
  have ea:act w a=w.set a.node (lead (w.nodes a.node)):=by unfold act;rw[if_neg (by omega),if_pos e]
  rw[ea]
  rw[e]at q0
  have cs:=vp T h1 o wb a.node (Z7 a.node) na (w.nodes a.node) k1.ZV N1 (ok.Zo4 _ hi) (ok.rgn _ hi)
  unfold Zn at cs
  simp -implicitDefEqProofs only[go_sem,↓reduceIte,e0,q0]
  refine VS.z (h1.size) [9] (.p 0 (.p 1 (.p 2 (.p 3 (.q 4 (.p 5 (.q 6 (.p 7 (.q 8 (.w 9 .nil)))))))))) mixed (by kernel_rfl) ?_
  simp -implicitDefEqProofs only[go_sem,↓reduceIte,Rn,q1,Ff,l3,hb,cJ,ri]
  refine cs.use ?_
  rintro v' g ⟨o',a',kk,N'⟩
  simp -implicitDefEqProofs only[go_sem,↓reduceIte]
  exact⟨o',YC,Z7,(Yc k1).trans (Yc kk),A1.Xj (kk.mono fun t q=>.inr (.inr (.inr q))) N' (A1.wd.Zc kk fun t q e=>by rw[q]at e;cases e)⟩
 ·-- a step
  have ea:act w a=w.out a.node (step (w.nodes a.node)):=by unfold act;rw[if_neg (by omega),if_neg (by omega),if_pos e]
  rw[ea]
  rw[e]at q0
  have cs:=oR T h1 o wb a.node (Z7 a.node) Z7 na (w.nodes a.node) YC w.Zj w.bad w.told k1.ZV N1 A1.wd qp (ok.step _ hi)
  unfold Zn at cs
  simp -implicitDefEqProofs only[go_sem,↓reduceIte,e0,q0]
  refine VS.z (h1.size) [9] (.p 0 (.p 1 (.p 2 (.p 3 (.q 4 (.p 5 (.q 6 (.p 7 (.q 8 (.w 9 .nil)))))))))) mixed (by kernel_rfl) ?_
  simp -implicitDefEqProofs only[go_sem,↓reduceIte,Rn,q1,Ff,l3,hb,cJ,ri]
  refine cs.use ?_
  rintro v' g ⟨o',a',Xn,kk,N',W'⟩
  simp -implicitDefEqProofs only[go_sem,↓reduceIte]
  exact⟨o',Xn,Z7,(Yc k1).trans (Yc kk),A1.Xj kk N' W'⟩
 ·-- a letter
  have ea:act w a=pick w a.at' (decide (a.kind≠5)) (decide (a.kind=6)):=by unfold act;rw[if_neg (by omega),if_neg (by omega),if_neg (by omega),if_pos e]
  rw[ea]
  have cs:=oS T h1 o wb Z7 YC w a.at' (decide (a.kind≠5)) (decide (a.kind=6)) k1.ZV A1 ok.to (by have:=ok.room;omega) (fun j hj=>by have:=ok.inbox j hj;omega)
  unfold Zn at cs
  rcases e with e|e|e
  all_goals
   rw[e]at q0 cs ⊢
   rw[e]at e0
   simp -implicitDefEqProofs only[go_sem,↓reduceIte,e0,q0,q2]
   refine cs.use ?_
   rintro v' g ⟨o',Xn,kk,A'⟩
   simp -implicitDefEqProofs only[go_sem,↓reduceIte]
   exact⟨o',Xn,Z7,(Yc k1).trans kk,A'⟩
 ·-- all vq
  have ea:act w a=w.Zj.foldl Jr { w with Zj:=[] }:=by unfold act;rw[if_neg (by omega),if_neg (by omega),if_neg (by omega),if_neg (by omega),if_pos e]
  rw[ea]
  rw[e]at q0
  have Ym:=ok.room
  obtain⟨pf,cf,hf,hfc⟩:=VP A1.wd.Zj
  have Rf:=R1.Zj
  rw[hf]at Rf
  obtain⟨g2,w2,W2,k2⟩:=A1.wd.HM (fl':=[]) (v:=.slice none 0 0) (Kp.refl k1.ZV (fun t=>t=.Zj)) ⟨[],rfl,Ys.nil _ _ _ _ _,fun x hx=>by cases hx⟩ (R1.Fe (.slice none 0 0) rfl)
  have A2:Ja o g2 wb Z7 { YC with Zj:=.slice none 0 0 } { w with Zj:=[] }:=A1.vf k2 (by rintro t rfl;rfl) W2
  have L2:QJ o .Zj g2 (.slice pf w.Zj.length cf) w.Zj:=by rw[←hf];exact A1.wd.Zj.Zc k2 (by intro e;cases e)
  have K2:Kp Ve o h o g2:=(Yc k1).trans (Yc k2)
  simp -implicitDefEqProofs only[go_sem,↓reduceIte,e0,q0,Rf,Ff,w2]
  refine VS.ZU (fun F g=>F 0=.pointer (some ⟨wb,0,none⟩)∧F 118=.slice pf w.Zj.length cf∧F 119=.int .i64 w.Zj.length∧∃(j:Nat) (o':Ow),j≤w.Zj.length∧F 120=.int .i64 j∧Kp Ve o h o' g∧Ja o' g wb Z7 { YC with Zj:=.slice none 0 0 } ((w.Zj.take j).foldl Jr { w with Zj:=[] })∧QJ o' .Zj g (.slice pf w.Zj.length cf) w.Zj)
   (fun F _=>w.Zj.length-(vi (F 120)).toNat) rfl ⟨rfl,rfl,rfl,0,o,Nat.zero_le _,rfl,K2,A2,L2⟩ ?_
  rintro F3 g3 ⟨f0,f118,f119,j,o3,hj,f120,K3,A3,L3⟩
  by_cases ZA:j<w.Zj.length
  ·have ZH:(j:Int)<w.Zj.length:=by omega
   obtain⟨v,b3,ZBc,c3,hv,hvc,hb3,Za8,iv3⟩:=dp L3 j ZA
   simp only[Value.slice.injEq]at hv
   obtain⟨rfl,_,rfl⟩:=hv
   obtain⟨l,hl⟩:=Zu (w.Zj[j])
   rw[←hl]at Za8 iv3
   have uX:l∈w.Zj:=by rw[hl];exact List.getElem_mem ZA
   obtain⟨pw,cw,rfl⟩:=iv3.isSlice
   obtain⟨g4,VO⟩:=Zu (g3.push (.cells (YS l (.slice pw l.vs.length cw)).toArray 163):Hp)
   have k4:Kp JK o3 g3 o3 g4:=by rw[VO];exact ZW K3.ZV _
   have x6:ZL o3 g4 g3.size (.cells (YS l (.slice pw l.vs.length cw)).toArray 163):=⟨K3.ZV _ (Nat.le_refl _),by rw[VO];exact Zb⟩
   have e4:=VO.symm
   have r6:rd g4 ⟨g3.size,0,none⟩ 14=some (YS l (.slice pw l.vs.length cw)):=Zo x6.2 rfl
   obtain⟨wj,hwj⟩:=Zu ((w.Zj.take j).foldl Jr { w with Zj:=[] })
   rw[←hwj]at A3
   have YM:(w.Zj.take (j+1)).foldl Jr { w with Zj:=[] } = Jr wj l:=by
    rw[Z9 _ j ZA,←hl,List.foldl_append,←hwj];rfl
   have cc:=Fk T g4 o3 wb Z7 _ wj l (.slice pw l.vs.length cw) k4.ZV (A3.still k4) (iv3.Zc k4) (ok.to l uX) (fun i hi=>by
    have h1:=Cb i (w.Zj.take j) { w with Zj:=[] }
    rw[←hwj,List.length_take]at h1
    have h2:=ok.inbox i hi
    have h3:=ok.room
    have h4:(({ w with Zj:=[] }:Wd).nodes i).inbox.length=(w.nodes i).inbox.length:=rfl
    omega)
   unfold Zn YS at cc
   unfold YS at e4 r6 Za8
   simp -implicitDefEqProofs only[go_sem,↓reduceIte,f0,f118,f119,f120,ZH,Za8,e4,r6]
   refine cc.use ?_
   rintro v' g5 ⟨o5,k5,A5⟩
   simp -implicitDefEqProofs only[go_sem,↓reduceIte,f120]
   unfold Yy
   refine⟨⟨f0,f118,f119,j+1,o5,ZA,rfl,(K3.trans (Yc k4)).trans (Yc k5),by rw[YM];exact A5,(L3.Zc k4 (fun q=>q.elim)).Zc k5 (by rintro⟨_,e⟩;cases e)⟩,?_⟩
   simp only[vi,Zh,↓reduceIte,f120];omega
  ·have YE:¬(j:Int)<w.Zj.length:=by omega
   obtain rfl:j=w.Zj.length:=by omega
   rw[List.take_of_length_le (Nat.le_refl _)]at A3
   simp -implicitDefEqProofs only[go_sem,↓reduceIte,f119,f120,YE]
   exact⟨o3,_,Z7,K3,A3⟩
 ·-- a xo
  have ea:act w a=w.set a.node (crashed a.node (w.nodes a.node) a.Zc):=by unfold act;rw[if_neg (by omega),if_neg (by omega),if_neg (by omega),if_neg (by omega),if_neg (by omega),if_pos e]
  rw[ea]
  rw[e]at q0
  obtain⟨n,I1⟩:=Zu (w.nodes a.node)
  have Za9:=ok.data _ hi
  rw[←I1]at N1 Za9
  have P1:=Zy N1.ZD.2 N1.pt.store.len
  have P1u:=P1.up
  simp -implicitDefEqProofs only[go_sem,↓reduceIte,e0,q0]
  refine VS.mono (N:=fun F' g'=>Ze h1.size h1 g'∧F' 0=.pointer (some ⟨wb,0,none⟩)∧F' 3=.pointer (some ⟨h.size,0,none⟩)∧F' 7=.pointer (some ⟨Z7 a.node,0,none⟩)) ?_ ?_ (fun _ _ _ h=>h) (fun _ _ h=>h)
  ·refine VS.z (h1.size) [] (.p 0 (.p 1 (.p 2 (.q 3 (.p 4 (.q 5 (.p 6 (.q 7 (.p 8 .nil))))))))) mixed (by kernel_rfl) ?_
   simp -implicitDefEqProofs only[go_sem,↓reduceIte,Rn,q1,Ff,l3,hb,cJ,ri]
   try exact Ze.refl _ _
  rintro F2 g2 ⟨b2,f0,f3,f7⟩
  have SW:=Zs k1.ZV b2
  have A2:=A1.still SW
  have N2:=N1.still SW
  have K2:=k1.trans SW
  have y3:=x3.Zc SW
  have P2:=Zy N2.ZD.2 N2.pt.store.len
  have dn:=P2.up
  have JL:=Za N2.ZD.2
  clear P1 P1u
  cases hu:n.up with
  | false=>
   rw[hu]at dn
   have e1:crashed a.node (w.nodes a.node) a.Zc=w.nodes a.node:=by unfold crashed;rw[←I1,if_neg (by rw[hu];simp)]
   rw[e1,D9]
   simp -implicitDefEqProofs only[go_sem,↓reduceIte,f7,dn]
   exact⟨o,YC,Z7,Yc K2,A2⟩
  | true=>
   rw[hu]at dn
   obtain⟨pt,ct,jB⟩:=N2.pt.data.1.isSlice
   have jB:na.data=.slice pt n.data.length ct:=jB
   have P2t:=P2.tape
   rw[jB]at P2t
   have ND:=N2.pt.data
   rw[jB]at ND
   obtain⟨L,Z,E,hLZ⟩:∃L Z E,T3 n.data n.Xs a.Zc=(L,Z,E):=⟨_,_,_,rfl⟩
   have q3:hc g2 ⟨h.size,3,none⟩=some (.int .i64 a.Zc):=Zg y3.2
   have l3:=Za y3.2
   have call:∀G,Ze g2.size g2 G→Zd Tryz.prog T 80 #[.agg #[.slice pt n.data.length ct,.int .i64 n.Xs],.int .i64 a.Zc] G fun v' h'=>Ze G.size G h'∧cF G.size h' v' (L,Z,E):=fun G hG=>by
    rw[←hLZ];exact mA T G _ n.Xs a.Zc n.data (ND.bs.Z4 hG) (by omega)
   have wT:∀(G:Hp) (k:Nat) (m:Int) (p:Option Addr) (L c:Nat),G[k]? = some (.cells [.slice none 0 0,.int .i64 0].toArray 126)→wr G ⟨k,0,none⟩ [.slice p L c,.int .i64 m]=some (G.setIfInBounds k (.cells [.slice p L c,.int .i64 m].toArray 126)):=fun G k m p L c hx=>by
    rw[ZP hx 0 _];rfl
   rw[aB a.node (w.nodes a.node) a.Zc L Z E (by rw[←I1];exact hu) (by rw[←I1];exact hLZ)]
   simp -implicitDefEqProofs only[go_sem,↓reduceIte,f7,dn]
   refine VS.mono (N:=fun F' g'=>F' 0=.pointer (some ⟨wb,0,none⟩)∧F' 3=.pointer (some ⟨h.size,0,none⟩)∧Ze g2.size g2 g'∧∃kt p c,F' 8=.pointer (some ⟨kt,0,none⟩)∧g'[kt]? = some (.cells [.slice p L.length c,.int .i64 Z].toArray 126)∧Ti o g' (.slice p L.length c) L) ?_ ?_ (fun _ _ _ h=>h) (fun _ _ h=>h)
   ·refine VS.z (g2.size) [6,11] (.p 0 (.p 1 (.p 2 (.q 3 (.p 4 (.q 5 (.or 6 (.p 7 (.p 8 (.p 9 (.s 10 (.w 11 (.p 12 .nil)))))) (.s 10 (.w 6 (.p 7 (.p 8 (.p 9 (.w 11 (.p 12 .nil)))))))))))))) mixed (by kernel_rfl) ?_
    simp -implicitDefEqProofs only[go_sem,↓reduceIte,f0,f3,f7,P2t,q3,JL,l3]
    repeat' (first|with_reducible exact Ze.refl _ _|with_reducible exact Ze.push (by omega) _|with_reducible refine And.intro ?_ ?_)
    all_goals first
     | (refine (call g2 (Ze.refl _ _)).use ?_
        rintro _ g5 ⟨b5,p5,c5,L',Z',E',hz,rfl,bs,qt,qB⟩
        cases hz
        have s5:=b5.size
        have kk:=Zs K2.ZV b5
        have im:Ti o g5 (.slice p5 L.length c5) L:=KD kk.ZV bs qt fun b hb=>⟨K2.ZV b (qB b hb).1,(qB b hb).2⟩
        simp -implicitDefEqProofs only[go_sem,↓reduceIte,b5]
        exact⟨f0,f3,_,_,_,rfl,Zb,im.Zc (ZW kk.ZV _)⟩)
     | (refine (call (g2.push (.cells _ 126)) (Ze.push (Nat.le_refl _) _)).use ?_
        rintro _ g5 ⟨b5,p5,c5,L',Z',E',hz,rfl,bs,qt,qB⟩
        cases hz
        have B5:Ze g2.size g2 g5:=(Ze.push (Nat.le_refl _) _).trans (b5.mono (by simp))
        have xA:=b5.get (k:=g2.size) (by simp) Zb
        have Tx:=wT _ _ Z p5 L.length c5 xA
        have zA:=Za xA
        have kk:=Zs K2.ZV B5
        have im:Ti o g5 (.slice p5 L.length c5) L:=KD kk.ZV bs qt fun b hb=>⟨K2.ZV b (by have:=(qB b hb).1;rw[Array.size_push]at this;omega),(qB b hb).2⟩
        have ks:=Ca kk.ZV im zA (fun b hb=>by have:=(qB b hb).1;rw[Array.size_push]at this;omega) (.cells [.slice p5 L.length c5,.int .i64 Z].toArray 126)
        simp -implicitDefEqProofs only[go_sem,↓reduceIte,B5,Tx,zA]
        exact⟨f0,f3,_,_,_,rfl,Zw xA,ks⟩)
   clear f0 f3 f7
   rintro F3 g3 ⟨f0,f3,b3,kt,p3,c3,f8,yt,im3⟩
   have We:=Zs K2.ZV b3
   have K3:=K2.trans We
   have A3:=A2.still We
   have z3:=y3.Zc We
   obtain⟨b,off,c,hn,hc5,hb,RO⟩:=U8 A3.wd
   have R3:=YT A3.wd.ZD.2
   have Rn:=R3.nodes
   rw[hn]at Rn
   have Ff:=Za A3.wd.ZD.2
   have q1:hc g3 ⟨h.size,1,none⟩=some (.int .i64 a.node):=Zg z3.2
   have l3:=Za z3.2
   have rt:rd g3 ⟨kt,0,none⟩ 2=some [.slice p3 L.length c3,.int .i64 Z]:=Zo yt rfl
   have lt:=Za yt
   have cb:Zd Tryz.prog T 74 #[.int .i64 a.node,.agg #[.slice p3 L.length c3,.int .i64 Z],.agg #[.int .i64 0,.int .i64 0,.slice none 0 0]] g3 _:=KB T g3 o wb a.node (.slice p3 L.length c3) L Z (.slice none 0 0) QG K3.ZV im3 (Im.nil _ _ _ _)
   refine VS.z (g3.size) [12] (.p 0 (.p 1 (.p 2 (.q 3 (.p 4 (.q 5 (.p 6 (.q 7 (.q 8 (.p 9 (.s 10 (.p 11 (.w 12 .nil))))))))))))) mixed (by kernel_rfl) ?_
   simp -implicitDefEqProofs only[go_sem,↓reduceIte,f0,f3,f8,Rn,q1,rt,Ff,l3,lt,hb,cJ]
   refine cb.use ?_
   rintro _ g4 ⟨nb,o4,a4,rfl,b4,k4,N4⟩
   have W4:=A3.wd.Zc k4 (by rintro t (rfl|rfl)<;>simp[Tg.of])
   obtain⟨b',Zo9,c',g5,S4,w5,k5,W5⟩:=HN k4.ZV W4 a.node nb hi
   rw[hn]at S4
   simp only[Value.slice.injEq,Option.some.injEq,Addr.mk.injEq,true_and,and_true]at S4
   obtain⟨⟨rfl,rfl⟩,rfl⟩:=S4
   have hb4:b<g4.size:=Nat.lt_of_lt_of_le hb b4.size
   have N5:=N4.Zc k5 (by rintro t rfl e;cases e)
   have K5:Kp Ve o h o4 g5:=((Yc K3).trans (Yc k4)).trans (Yc k5)
   have z5:=(z3.Zc k4).Zc k5
   unfold Zn at w5 ⊢
   simp -implicitDefEqProofs only[go_sem,↓reduceIte,b4,w5,hb4,cJ]
   have R5:=YT W5.ZD.2
   have R5n:=R5.nodes
   rw[hn]at R5n
   obtain⟨b'',ZuD,c'',Zba,_,hb5,Zpa⟩:=U8 W5
   rw[hn]at Zba
   simp only[Value.slice.injEq,Option.some.injEq,Addr.mk.injEq,true_and,and_true]at Zba
   obtain⟨⟨rfl,rfl⟩,rfl⟩:=Zba
   have ri5:=Zpa a.node hi
   simp only[↓reduceIte]at ri5
   unfold Zn at ri5
   have az:=Za W5.ZD.2
   have jC:hc g5 ⟨h.size,1,none⟩=some (.int .i64 a.node):=Zg z5.2
   have l35:=Za z5.2
   have RN:=Za N5.ZD.2
   obtain⟨g6,w6,N6,k6⟩:=ZS.write (n:={ blank a.node true L Z QG with up:=false }) (a:=a4) { N5.pt with } K5.ZV N5.ZD ((YO N5.ZD.2 N5.pt.store.len).up false)
   refine VS.z (g5.size) [10] (.p 0 (.p 1 (.p 2 (.q 3 (.p 4 (.q 5 (.p 6 (.q 7 (.p 8 (.p 9 (.w 10 .nil))))))))))) mixed (by kernel_rfl) ?_
   simp -implicitDefEqProofs only[go_sem,↓reduceIte,f0,f3,R5n,jC,az,l35,hb5,cJ,ri5,RN,w6]
   have kk:Kp (fun t=>t=.nodes∨t.of=some a.node) o g3 o4 g6:=((k4.mono fun t q=>by rcases q with rfl|rfl<;>exact .inr rfl).trans (k5.mono fun t q=>.inl q)).trans (k6.mono fun t q=>.inr (by rw[q];rfl))
   exact⟨o4,YC,_,K5.trans (Yc k6),A3.fresh kk N6 (W5.Zc k6 (by rintro t rfl;simp[Tg.of]))⟩
 ·-- a start
  have ea:act w a=w.set a.node (started a.node (w.nodes a.node)):=by unfold act;rw[if_neg (by omega),if_neg (by omega),if_neg (by omega),if_neg (by omega),if_neg (by omega),if_neg (by omega)]
  rw[ea]
  rw[e]at q0
  obtain⟨n,I1⟩:=Zu (w.nodes a.node)
  have Za9:=ok.data _ hi
  rw[←I1]at N1 Za9
  simp -implicitDefEqProofs only[go_sem,↓reduceIte,e0,q0]
  refine VS.mono (N:=fun F' g'=>Ze h1.size h1 g'∧F' 0=.pointer (some ⟨wb,0,none⟩)∧F' 3=.pointer (some ⟨h.size,0,none⟩)∧F' 10=.pointer (some ⟨Z7 a.node,0,none⟩)) ?_ ?_ (fun _ _ _ h=>h) (fun _ _ h=>h)
  ·refine VS.z (h1.size) [] (.p 0 (.p 1 (.p 2 (.q 3 (.p 4 (.q 5 (.p 6 (.q 7 (.p 8 .nil))))))))) mixed (by kernel_rfl) ?_
   simp -implicitDefEqProofs only[go_sem,↓reduceIte,Rn,q1,Ff,l3,hb,cJ,ri]
   try exact Ze.refl _ _
  rintro F2 g2 ⟨b2,f0,f3,f10⟩
  have SW:=Zs k1.ZV b2
  have A2:=A1.still SW
  have N2:=N1.still SW
  have K2:=k1.trans SW
  have Hb:=qp.Zc SW
  have y3:=x3.Zc SW
  have P2:=Zy N2.ZD.2 N2.pt.store.len
  have dn:=P2.up
  have JL:=Za N2.ZD.2
  cases hu:n.up with
  | true=>
   rw[hu]at dn
   have e1:started a.node (w.nodes a.node)=w.nodes a.node:=by unfold started;rw[←I1,if_pos hu]
   rw[e1,D9]
   simp -implicitDefEqProofs only[go_sem,↓reduceIte,f10,dn]
   exact⟨o,YC,Z7,Yc K2,A2⟩
  | false=>
   rw[hu]at dn
   obtain⟨pt,ct,jB,hct⟩:=N2.pt.data.1.fits
   have jB:na.data=.slice pt n.data.length ct:=jB
   have P2t:=P2.tape
   rw[jB]at P2t
   have ND:=N2.pt.data
   rw[jB]at ND
   obtain⟨D,hD⟩:=Zu (ab n.data n.Xs)
   obtain⟨Z,hZ⟩:=Zu (uA n.data n.Xs)
   obtain⟨Wk,Zf4⟩:=Zu (if Y5 D Z then (Sh D).1 else QG)
   have es:started a.node (w.nodes a.node)=blank a.node true D Z Wk:=by unfold started;rw[←I1,if_neg (by rw[hu];simp),Zf4,hD,hZ]
   rw[es]
   have hDl:D.length≤1000000:=by
    rw[hD];unfold ab;split
    ·rw[List.length_take];omega
    ·simp
   simp -implicitDefEqProofs only[go_sem,↓reduceIte,f10,dn,P2t]
   refine (gO T g2 _ n.Xs n.data ND.bs hct (by omega) Hb.tk).use ?_
   rintro v3 g3 ⟨R3,b3⟩
   obtain⟨p3,c3,E3,rfl,o3⟩:∃p c E,v3=.tuple [.agg [.slice p D.length c,.int .i64 Z].toArray,.int .i64 E].toArray∧Z1 g2.size 5 g3 (.slice p D.length c) D:=by
    obtain⟨r,k,E,w',rfl,ob,hk,hr⟩:=R3
    have h1:(if E=0 then n.data.take k else [])=D:=by
     rw[hD];unfold ab
     split at hr
     ·rename_i q;rw[if_pos hr.1,if_pos q,Fl hr.2]
     ·rename_i q;rw[if_neg (show ¬E=0 by omega),if_neg q]
    have h2:(if E=0 then (if (k:Int)<n.Xs then (k:Int) else n.Xs) else 0)=Z:=by
     rw[hZ];unfold uA
     split at hr
     ·rename_i q;rw[if_pos hr.1,if_pos q,Fl hr.2]
     ·rename_i q;rw[if_neg (show ¬E=0 by omega),if_neg q]
    rw[h1]at ob
    rw[h2]
    obtain⟨p,c,rfl,_⟩:=ob.open
    exact⟨p,c,E,rfl,ob⟩
   have We:=Zs K2.ZV b3
   obtain⟨g4,VO⟩:=Zu (g3.push (.cells [.slice p3 D.length c3,.int .i64 Z].toArray 126):Hp)
   have k4:Kp JK o g2 o g4:=by rw[VO];exact We.push _
   have x11:ZL o g4 g3.size (.cells [.slice p3 D.length c3,.int .i64 Z].toArray 126):=⟨We.ZV _ (Nat.le_refl _),by rw[VO];exact Zb⟩
   have e4:=VO.symm
   have iD4:Ti o g4 (.slice p3 D.length c3) D:=by rw[VO];exact Ti.Zc ⟨Im.Qy o3.own (fun b hb=>K2.ZV b hb),o3.byte⟩ (ZW We.ZV _)
   have r11:rd g4 ⟨g3.size,0,none⟩ 2=some [.slice p3 D.length c3,.int .i64 Z]:=Zo x11.2 rfl
   have tb4:=Hb.Zc k4
   simp -implicitDefEqProofs only[go_sem,↓reduceIte,e4,r11]
   refine (Ki T g4 _ Z D iD4.bs (by omega) tb4.tk).use ?_
   rintro v5 g5 ⟨R5,b5⟩
   obtain⟨p5,c5,E5,K5',rfl,o5⟩:∃p c E K,v5=.tuple [.agg [.int .i64 Wk.p.r,.int .i64 Wk.p.n,.slice p Wk.l.length c].toArray,.int .i64 K,.int .i64 E].toArray∧Wc o g5 (.slice p Wk.l.length c) Wk.l:=by
    obtain⟨r,k,E,w',rfl,ob,hk,_,hr⟩:=R5
    have h1:r=Wk:=by
     rw[Zf4]
     split at hr
     ·rw[if_pos (by assumption),Fl hr.2]
     ·rw[if_neg (by assumption)];exact hr.2.1
    rw[h1]at ob ⊢
    have im:Wc o g5 w' Wk.l:=Im.Qy ob.own (fun b hb=>k4.ZV b hb)
    obtain⟨p,c,rfl⟩:=im.isSlice
    exact⟨p,c,E,_,rfl,im⟩
   have HH:=Zs k4.ZV b5
   obtain⟨g6,TF⟩:=Zu (g5.push (.cells [.int .i64 Wk.p.r,.int .i64 Wk.p.n,.slice p5 Wk.l.length c5].toArray 131):Hp)
   have k6:Kp JK o g4 o g6:=by rw[TF];exact HH.push _
   have x13:ZL o g6 g5.size (.cells [.int .i64 Wk.p.r,.int .i64 Wk.p.n,.slice p5 Wk.l.length c5].toArray 131):=⟨HH.ZV _ (Nat.le_refl _),by rw[TF];exact Zb⟩
   have e6:=TF.symm
   have K6:Kp JK o h o g6:=(K2.trans k4).trans k6
   have iD6:=iD4.Zc k6
   have iV6:Wc o g6 (.slice p5 Wk.l.length c5) Wk.l:=by rw[TF];exact o5.Zc (ZW HH.ZV _)
   have A6:=(A2.still k4).still k6
   have z3:=(y3.Zc k4).Zc k6
   have z11:=x11.Zc k6
   clear hn hc5 hb RO Rn Ff q1 l3 ri
   obtain⟨b,off,c,hn,hc5,hb,RO⟩:=U8 A6.wd
   have R6:=YT A6.wd.ZD.2
   have Rn:=R6.nodes
   rw[hn]at Rn
   have Ff:=Za A6.wd.ZD.2
   have q1:hc g6 ⟨h.size,1,none⟩=some (.int .i64 a.node):=Zg z3.2
   have l3:=Za z3.2
   have rt:rd g6 ⟨g3.size,0,none⟩ 2=some [.slice p3 D.length c3,.int .i64 Z]:=Zo z11.2 rfl
   have lt:=Za z11.2
   have ra:rd g6 ⟨g5.size,0,none⟩ 3=some [.int .i64 Wk.p.r,.int .i64 Wk.p.n,.slice p5 Wk.l.length c5]:=Zo x13.2 rfl
   have la:=Za x13.2
   have cb:=KB T g6 o wb a.node (.slice p3 D.length c3) D Z (.slice p5 Wk.l.length c5) Wk K6.ZV iD6 iV6
   simp -implicitDefEqProofs only[go_sem,↓reduceIte,e6]
   refine VS.z (g6.size) [12] (.p 0 (.p 1 (.p 2 (.q 3 (.p 4 (.q 5 (.p 6 (.q 7 (.q 8 (.q 9 (.s 10 (.p 11 (.w 12 .nil))))))))))))) mixed (by kernel_rfl) ?_
   simp -implicitDefEqProofs only[go_sem,↓reduceIte,f0,f3,Rn,q1,rt,ra,Ff,l3,lt,la,hb,cJ]
   refine cb.use ?_
   rintro _ g7 ⟨nb,o7,a7,rfl,b7,k7,N7⟩
   have W7:=A6.wd.Zc k7 (by rintro t (rfl|rfl)<;>simp[Tg.of])
   obtain⟨b',Zo9,c',g8,S4,w8,k8,W8⟩:=HN k7.ZV W7 a.node nb hi
   rw[hn]at S4
   simp only[Value.slice.injEq,Option.some.injEq,Addr.mk.injEq,true_and,and_true]at S4
   obtain⟨⟨rfl,rfl⟩,rfl⟩:=S4
   have hb7:b<g7.size:=Nat.lt_of_lt_of_le hb b7.size
   have N8:=N7.Zc k8 (by rintro t rfl e;cases e)
   have K8:Kp Ve o h o7 g8:=((Yc K6).trans (Yc k7)).trans (Yc k8)
   unfold Zn at w8 ⊢
   simp -implicitDefEqProofs only[go_sem,↓reduceIte,b7,w8,hb7,cJ]
   have kk:Kp (fun t=>t=.nodes∨t.of=some a.node) o g6 o7 g8:=(k7.mono fun t q=>by rcases q with rfl|rfl<;>exact .inr rfl).trans (k8.mono fun t q=>.inl q)
   exact⟨o7,YC,_,K8,A6.fresh kk N8 W8⟩
def KH (Z7:Nat→Nat) (j:Nat):List Value:=(List.range j).map fun i=>Zn (Z7 i)
theorem aH (Z7:Nat→Nat) (j:Nat):KH Z7 (j+1)=KH Z7 j++[Zn (Z7 j)]:=by
 unfold KH;rw[List.range_succ,List.map_append];rfl
theorem aI (Z7:Nat→Nat) (j nb:Nat):KH (fun i=>if i=j then nb else Z7 i) j=KH Z7 j:=by
 unfold KH
 apply List.map_congr_left
 intro i hi
 rw[List.mem_range]at hi
 simp only
 rw[if_neg (by omega)]
set_option maxHeartbeats 4000000 in
theorem pB (T:World) (h:Hp) (o:Ow) (d:Ug o h) :
  Zd Tryz.prog T 57 #[] h fun v' h'=>∃wb Z7 o' YC,v'=Zn wb∧Kp Ve o h o' h'∧Ja o' h' wb Z7 YC Va:=by
 refine Zd.Zi (args:=[]) Tryz.func57 rfl rfl rfl rfl ?_
 obtain⟨wb,Zbb⟩:=Zu (h.size)
 obtain⟨g1,Om⟩:∃g1:Hp,g1=h.push (.cells (Y6 (fun _=>0) ⟨.slice none 0 0,.slice none 0 0,.slice none 0 0⟩).toArray 123):=⟨_,rfl⟩
 have e1:=Om.symm
 unfold Y6 at e1
 simp only at e1
 have k1:Kp Ve o h (Jt o wb .world) g1:=by rw[Om,Zbb];exact ((Kp.refl d Ve).push _).TT (Nat.le_refl _) (by simp) trivial
 have B1:QK (Jt o wb .world) .world g1 wb (.cells (Y6 (fun _=>0) ⟨.slice none 0 0,.slice none 0 0,.slice none 0 0⟩).toArray 123):=⟨YV,by rw[Om,Zbb];exact Zb⟩
 simp -implicitDefEqProofs only[go_sem,↓reduceIte,e1]
 rw[←Zbb]
 refine VS.ZU (fun F g=>F 1=.pointer (some ⟨wb,0,none⟩)∧∃(j:Nat) (o':Ow) (Z7:Nat→Nat) (v:Value),j≤5∧F 5=.int .i64 j∧Kp Ve o h o' g∧QK o' .world g wb (.cells (Y6 (fun _=>0) ⟨v,.slice none 0 0,.slice none 0 0⟩).toArray 123)∧Ys o' .nodes 124 1 g v j (KH Z7 j)∧∀i,i<j→∃a,ZI o' g wb i (Z7 i) a (blank i true [] 0 QG))
  (fun F _=>5-(vi (F 5)).toNat) rfl ⟨rfl,0,_,fun _=>0,.slice none 0 0,by omega,rfl,k1,B1,Ys.nil _ _ _ _ _,fun i hi=>by omega⟩ ?_
 clear B1 k1 e1 Om
 rintro F2 g2 ⟨f1,j,o2,Z7,v,hj,f5,K2,B2,O2,N2⟩
 by_cases ZA:j<5
 ·have ZH:(j:Int)<5:=by omega
  obtain⟨pv,cv,rfl,_⟩:=O2.isSlice
  have R2:=YT B2.2
  have Rn:=R2.nodes
  simp only at Rn
  have Ff:=Za B2.2
  have cb:Zd Tryz.prog T 74 #[.int .i64 j,.agg #[.slice none 0 0,.int .i64 0],.agg #[.int .i64 0,.int .i64 0,.slice none 0 0]] g2 _:=KB T g2 o2 wb j (.slice none 0 0) [] 0 (.slice none 0 0) QG K2.ZV ⟨Im.nil _ _ _ _,fun x hx=>by cases hx⟩ (Im.nil _ _ _ _)
  simp -implicitDefEqProofs only[go_sem,↓reduceIte,f1,f5,ZH]
  refine VS.z (g2.size) [10,13] (.p 0 (.p 1 (.p 2 (.p 3 (.q 4 (.p 5 (.p 6 (.p 7 (.s 8 (.s 9 (.w 10 (.p 11 (.p 12 (.w 13 .nil)))))))))))))) mixed (by kernel_rfl) ?_
  simp -implicitDefEqProofs only[go_sem,↓reduceIte,f1,f5,Rn,Ff]
  refine cb.use ?_
  rintro _ g3 ⟨nb,o3,a3,rfl,b3,k3,N3⟩
  unfold Zn
  simp -implicitDefEqProofs only[go_sem,↓reduceIte,b3]
  obtain⟨g4,VO⟩:=Zu (g3.push (.cells [Zn nb].toArray 124):Hp)
  have e4:=VO.symm
  unfold Zn at e4
  rw[e4]
  have k4:Kp JK o3 g3 o3 g4:=by rw[VO];exact ZW k3.ZV _
  have B4:=(B2.Zc k3 (by rintro (e|e)<;>cases e)).Zc k4 (fun q=>q)
  have O4:=(O2.Zc k3 (by rintro (e|e)<;>cases e)).Zc k4 (fun q=>q)
  have N4:=N3.still k4
  have M4:∀i,i<j→∃a,ZI o3 g4 wb i (Z7 i) a (blank i true [] 0 QG):=fun i hi=>by
   obtain⟨a,N⟩:=N2 i hi
   refine⟨a,(N.Zc k3 ?_).still k4⟩
   rintro t (rfl|rfl) e
   ·have:=Option.some.inj e;omega
   ·have:=Option.some.inj e;omega
  have x4:g4[g3.size]? = some (.cells [Zn nb].toArray 124):=by rw[VO];exact Zb
  have src:Sl 1 g4 (.slice (some ⟨g3.size,0,none⟩) 1 1) 1 [Zn nb]:=⟨_,1,rfl,rfl,fun _=>⟨g3.size,0,rfl,fun i hi=>by
   rw[Zg x4,Yj,Nat.zero_add];exact List.getElem?_eq_getElem hi⟩⟩
  refine XW (E:=124) (n:=1) (bytes:=8) (k:=1) zv Tryz.underlying120 ZdE ZdG rfl ZdF O4 k4.ZV src rfl (by omega) (by omega) ?_
  intro v' o5 g5 O5 k5 _
  have k5:Kp (fun u=>u=.nodes) o3 g4 o5 g5:=k5
  obtain⟨p5,c5,rfl,_⟩:=O5.isSlice
  have B5:=B4.Zc k5 (by intro e;cases e)
  have w5:=(YT B5.2).ZaG (.slice p5 (j+1) c5) rfl
  have az:=Za B5.2
  obtain⟨g6,TF⟩:∃g6,g6=g5.setIfInBounds wb (.cells (Y6 (fun _=>0) ⟨.slice p5 (j+1) c5,.slice none 0 0,.slice none 0 0⟩).toArray 123):=⟨_,rfl⟩
  simp only at w5
  rw[←TF]at w5
  have k6:Kp (fun t=>t=.world) o5 g5 o5 g6:=by rw[TF];exact (Kp.refl k5.ZV (fun t=>t=.world)).set B5.1 rfl _
  have B6:QK o5 .world g6 wb (.cells (Y6 (fun _=>0) ⟨.slice p5 (j+1) c5,.slice none 0 0,.slice none 0 0⟩).toArray 123):=⟨B5.1,by rw[TF];exact Zw B5.2⟩
  have K6:Kp Ve o h o5 g6:=(((K2.trans (Yc k3)).trans (Yc k4)).trans (Yc k5)).trans (Yc k6)
  simp -implicitDefEqProofs only[go_sem,↓reduceIte,w5,az,f5]
  unfold Yy
  refine⟨⟨f1,j+1,o5,(fun i=>if i=j then nb else Z7 i),.slice p5 (j+1) c5,ZA,rfl,K6,B6,?_,fun i hi=>?_⟩,?_⟩
  ·rw[aH,aI]
   simp only[↓reduceIte]
   exact O5.Zc k6 (by intro e;cases e)
  ·by_cases e:i=j
   ·subst e
    refine⟨a3,?_⟩
    simp only[↓reduceIte]
    exact (N4.Zc k5 (by rintro t rfl e;cases e)).Zc k6 (by rintro t rfl e;cases e)
   ·obtain⟨a,N⟩:=M4 i (by omega)
    refine⟨a,?_⟩
    simp only[if_neg e]
    exact (N.Zc k5 (by rintro t rfl e;cases e)).Zc k6 (by rintro t rfl e;cases e)
  ·simp only[vi,Zh,↓reduceIte,f5];omega
 ·have YE:¬(j:Int)<5:=by omega
  obtain rfl:j=5:=by omega
  simp -implicitDefEqProofs only[go_sem,↓reduceIte,f1,f5,YE]
  exact⟨wb,Z7,o2,_,rfl,K2,⟨B2,O2,⟨[],rfl,Ys.nil _ _ _ _ _,fun x hx=>by cases hx⟩,Ys.nil _ _ _ _ _⟩,fun i hi=>N2 i hi⟩
theorem aJ (T:World) (h:Hp) (u:Value) (l:List Cm) (s:Ts J8.C 5 h u l) (hl:l.length≤2199023255552) :
  Zd Tryz.prog T 59 #[u] h fun v' h'=>Jh h.size 47 J8.C 5 h' v' l∧Ze h.size h h':=by
 obtain⟨p,c,rfl,UA⟩:=XP s
 refine Zd.Zi (args:=[_]) Tryz.func59 rfl rfl rfl rfl ?_
 cases p with
 | none=>
  have:l=[]:=by
   cases l with
   | nil=>rfl
   | cons x l=>obtain⟨b,o,hp,_⟩:=UA (by simp);cases hp
  subst this
  simp -implicitDefEqProofs only[go_sem,↓reduceIte]
  exact Jh.nil _ _ _ _ _
 | some a=>
  simp -implicitDefEqProofs only[go_sem,↓reduceIte]
  refine Sy (E:=47) (B:=h.size) (n:=5) (bytes:=40) Ev Tryz.underlying37 zu lQ rfl ZdD (fun _=>rfl) (Jh.Ip _ _ J8.C 5 _ _) (by simp) (s.Z4 (Ze.push (Nat.le_refl _) _)) (by simp;omega) (by omega) ?_
  intro v' h' ho hb _
  simp -implicitDefEqProofs only[go_sem,↓reduceIte]
  exact⟨by simpa using ho,(Ze.push (Nat.le_refl _) _).trans hb⟩
structure Raw where
 k:Int
 n:Int
 a:Int
 b:Int
 data:List Nat
def Raw.ac (x:Raw):Ac:=⟨x.k,x.n.toNat,x.a.toNat,x.b,x.data⟩
def Raw.err (x:Raw):Int:=J6 x.k x.n x.a x.b x.data.length
def Qk (x:Raw × Value):List Value:=Vj x.1.k x.1.n x.1.a x.1.b x.2
def JM:List Raw→Int
 | []=>0
 | x :: l=>if x.err≠0 then x.err else JM l
def Wa (l:List Raw):Int:=if 100000<l.length then 1 else JM l
theorem Sm (x:Raw × Value):(Qk x).length=5:=rfl
theorem KI {l:List Raw} {j:Nat} (hj:j<l.length) (h0:∀x∈l.take j,x.err=0) (h1:l[j].err≠0):JM l=l[j].err:=by
 induction l generalizing j with
 | nil=>simp at hj
 | cons y l ih=>
  cases j with
  | zero=>unfold JM;rw[if_pos (by simpa using h1)];rfl
  | succ j=>
   unfold JM
   rw[if_neg (by simpa using h0 y (by simp))]
   exact ih (by simpa using hj) (fun x hx=>h0 x (by simp[hx])) (by simpa using h1)
theorem Sn {l:List Raw} (h0:∀x∈l,x.err=0):JM l=0:=by
 induction l with
 | nil=>rfl
 | cons y l ih=>unfold JM;rw[if_neg (by simpa using h0 y (by simp))];exact ih fun x hx=>h0 x (by simp[hx])
theorem RS {x:Raw} (h:x.err=0):(1≤x.k∧x.k≤9)∧(0≤x.n∧x.n≤4)∧(0≤x.a∧x.a≤1048576)∧(0≤x.b∧x.b≤100000)∧x.data.length≤2000:=by
 unfold Raw.err J6 at h
 by_cases c1:1≤x.k∧x.k≤9
 case neg=>rw[if_pos c1]at h;cases h
 rw[if_neg (by simpa using c1)]at h
 by_cases c2:(YD x.k∧¬(0≤x.n∧x.n≤4))∨(X7 x.k∧¬(0≤x.a∧x.a≤1048576))∨(x.k=8∧¬(0≤x.b∧x.b≤100000))
 ·rw[if_pos c2]at h;cases h
 rw[if_neg c2]at h
 by_cases c3:2000<x.data.length
 ·rw[if_pos c3]at h;cases h
 rw[if_neg c3]at h
 by_cases c4:(¬YD x.k∧x.n≠0)∨(¬X7 x.k∧x.a≠0)∨(x.k≠8∧x.b≠0)∨(x.k≠1∧0<x.data.length)
 ·rw[if_pos c4]at h;cases h
 refine⟨c1,?_,?_,?_,by omega⟩
 ·by_cases q:YD x.k
  ·exact Classical.byContradiction fun e=>c2 (.inl ⟨q,e⟩)
  ·have:x.n=0:=Classical.byContradiction fun e=>c4 (.inl ⟨q,e⟩)
   omega
 ·by_cases q:X7 x.k
  ·exact Classical.byContradiction fun e=>c2 (.inr (.inl ⟨q,e⟩))
  ·have:x.a=0:=Classical.byContradiction fun e=>c4 (.inr (.inl ⟨q,e⟩))
   omega
 ·by_cases q:x.k=8
  ·exact Classical.byContradiction fun e=>c2 (.inr (.inr ⟨q,e⟩))
  ·have:x.b=0:=Classical.byContradiction fun e=>c4 (.inr (.inr (.inl ⟨q,e⟩)))
   omega
def YU (xs:List (Raw × Value)):List Raw:=xs.map (·.1)
def Wl:Ow:=fun _=>none
theorem JQ (h:Hp):Ug Wl h:=fun _ _=>rfl
theorem Uq {S:Tg→Prop} {h h':Hp} {o':Ow} (k:Kp S Wl h o' h'):Ze h.size h h':=
 ⟨k.size,fun b hb=>(k.Zc b hb fun t ht=>by cases ht).1⟩
def jD:List Value:=[.int .i64 0,.bool false,.bool false,.bool false,.bool false,.bool false,.slice none 0 0,.int .i64 0,.int .i64 0,.int .i64 0,.int .i64 0,.int .i64 0,.slice none 0 0]
def HS (w:Wd) (lv tv:Value):List Value:=[.int .i64 w.Zj.length,.bool (w.nodes 0).up,.bool (w.nodes 1).up,.bool (w.nodes 2).up,.bool (w.nodes 3).up,.bool (w.nodes 4).up,lv,.int .i64 (w.bad 0),.int .i64 (w.bad 1),.int .i64 (w.bad 2),.int .i64 (w.bad 3),.int .i64 (w.bad 4),tv]
structure KJ (h:Hp) (R:List Value) (w:Wd) (lv tv:Value) (vs:List Value):Prop where
 cells:R=HS w lv tv
 aK:Ts (fun v=>[v]) 1 h lv vs
 each:Et (fun v l=>Ts J8.C 5 h v l) vs [(w.nodes 0).log,(w.nodes 1).log,(w.nodes 2).log,(w.nodes 3).log,(w.nodes 4).log]
 told:Ts VK 5 h tv w.told
 ZBl:Et (fun v (l:List Cm)=>∃p c,v=.slice p l.length c∧l.length≤c) vs [(w.nodes 0).log,(w.nodes 1).log,(w.nodes 2).log,(w.nodes 3).log,(w.nodes 4).log]
def QB (B:Nat) (h:Hp) (R:List Value) (w:Wd) (lv tv:Value) (vs:List Value):Prop:=∀G:Hp,(∀b,B≤b→b<h.size→G[b]? = h[b]?)→KJ G R w lv tv vs
theorem QB.at {B:Nat} {h:Hp} {R:List Value} {w:Wd} {lv tv:Value} {vs:List Value} (s:QB B h R w lv tv vs):KJ h R w lv tv vs:=s h fun _ _ _=>rfl
theorem QB.Z4 {B:Nat} {h h':Hp} {R:List Value} {w:Wd} {lv tv:Value} {vs:List Value} (s:QB B h R w lv tv vs) (b:Ze h.size h h'):QB B h' R w lv tv vs:=
 fun G hG=>s G fun k h1 h2=>by rw[hG k h1 (Nat.lt_of_lt_of_le h2 b.size)];exact b.block k h2
theorem QB.set {B:Nat} {h:Hp} {R:List Value} {w:Wd} {lv tv:Value} {vs:List Value} (s:QB B h R w lv tv vs) {k:Nat} (hk:k<B) (x:Obj):QB B (h.setIfInBounds k x) R w lv tv vs:=
 fun G hG=>s G fun b h1 h2=>by rw[hG b h1 (by simpa using h2),Array.getElem?_setIfInBounds,if_neg (by omega)]
def HT (B:Nat) (h':Hp) (v':Value) (l:List Raw):Prop:=
 if Wa l=0 then ∃R lv tv vs,v'=.tuple #[.agg R.toArray,.int .i64 0]∧QB B h' R (SV (l.map Raw.ac)) lv tv vs
 else v'=.tuple #[.agg jD.toArray,.int .i64 (Wa l)]
theorem OX {h:Hp} {v:Value} {l:List (Raw × Value)} (s:Ts Qk 5 h v l):∃p c,v=.slice p l.length c∧(l≠[]→∃b o,p=some ⟨b,o,none⟩∧b<h.size∧∀i (hi:i<l.length),rd h ⟨b,o+i*5,none⟩ 5=some (Qk l[i])):=by
 obtain⟨p,c,hv,hh⟩:=s.open Sm (by decide)
 refine⟨p,c,hv,fun Yr=>?_⟩
 obtain⟨b,o,h1,h2,h3⟩:=hh Yr
 exact⟨b,o,h1,h2,fun i hi=>(h3 i hi).rd (by simp[Qk,Vj]) rfl⟩
def Cf (w:Wd) (j:Nat) (lv tv:Value):List Value:=[.int .i64 w.Zj.length,.bool (if 0<j then (w.nodes 0).up else false),.bool (if 1<j then (w.nodes 1).up else false),.bool (if 2<j then (w.nodes 2).up else false),.bool (if 3<j then (w.nodes 3).up else false),.bool (if 4<j then (w.nodes 4).up else false),lv,.int .i64 (w.bad 0),.int .i64 (w.bad 1),.int .i64 (w.bad 2),.int .i64 (w.bad 3),.int .i64 (w.bad 4),tv]
theorem dB (w:Wd) (j:Nat) (lv tv:Value):(Cf w j lv tv).length=13:=rfl
theorem Zbc (w:Wd) (j:Nat) (lv tv:Value) (hj:j<5):(Cf w j lv tv).set (1+j) (.bool (w.nodes j).up)=Cf w (j+1) lv tv:=by
 match j,hj with
 | 0,_=>rfl
 | 1,_=>rfl
 | 2,_=>rfl
 | 3,_=>rfl
 | 4,_=>rfl
theorem vD (w:Wd) (j:Nat) (lv lv' tv:Value):(Cf w j lv tv).set 6 lv'=Cf w j lv' tv:=rfl
def OY (w:Wd) (j:Nat):List (List Cm):=(List.range j).map fun i=>(w.nodes i).log
theorem Cg (w:Wd) (j:Nat):OY w (j+1)=OY w j++[(w.nodes j).log]:=by
 unfold OY;rw[List.range_succ,List.map_append];rfl
def aL (t:Tg):Prop:=t=.log 100∨t=.log 101
theorem Oj {α β:Type} {R R':α→β→Prop} {l:List α} {k:List β} (s:Et R l k) (h:∀x y,R x y→R' x y):Et R' l k:=by
 induction s with
 | nil=>exact .nil
 | cons a _ ih=>exact .cons (h _ _ a) ih
theorem iM (l:List Value):Zz (fun v=>[v]) l=l:=by
 induction l with
 | nil=>rfl
 | cons x l ih=>
  have:Zz (fun v=>[v]) (x :: l)=[x]++Zz (fun v=>[v]) l:=by simp[Zz]
  rw[this,ih];rfl
theorem pC {o:Ow} {t:Tg} {E:TypeId} {n m b:Nat} {h:Hp} {v:Value} {cs:List Value} (s:Ys o t E n h v m cs) (hb:ZM v=some b):o b=some t:=by
 rcases s with⟨⟨q,rfl⟩,_,_⟩|⟨b',j,cap,pre,spare,h1,rfl,h3,h4,h5,h6,h7⟩
 ·cases q<;>simp[ZM]at hb
 ·unfold ZM at hb
  simp only at hb
  split at hb
  ·cases hb
  ·have:=Option.some.inj hb
   rw[←this];exact h1
theorem dC {o:Ow} {t:Tg} {E:TypeId} {n m:Nat} {h G:Hp} {v:Value} {cs:List Value} (s:Ys o t E n h v m cs) (hG:∀b,o b=some t→b<h.size→G[b]? = h[b]?):Ys o t E n G v m cs:=by
 rcases s with s|⟨b',j,cap,pre,spare,h1,rfl,h3,h4,h5,h6,h7⟩
 ·exact .inl s
 ·exact .inr ⟨b',j,cap,pre,spare,h1,rfl,by rw[hG b' h1 (Za h3)];exact h3,h4,h5,h6,h7⟩
theorem Zf5 {o:Ow} {n m:Nat} {h G:Hp} {v:Value} {cs:List Value} (s:Im o n h v m cs) (hG:∀b,ZM v=some b→b<h.size→G[b]? = h[b]?):Sl n G v m cs:=by
 obtain⟨⟨p,c,rfl,hl,qt⟩,⟨p',c',he,hm⟩,hf⟩:=s
 simp only[Value.slice.injEq,true_and]at he
 obtain⟨rfl,rfl⟩:=he
 refine⟨p,c,rfl,hl,fun Yr=>?_⟩
 obtain⟨b,off,rfl,Yx⟩:=qt Yr
 have bH:c≠0:=by
  intro e
  have:m=0:=by omega
  rw[this,Nat.zero_mul]at hl
  exact Yr (List.eq_nil_of_length_eq_zero hl)
 have hb:ZM (.slice (some ⟨b,off,none⟩) m c)=some b:=by unfold ZM;simp only;rw[if_neg bH]
 refine⟨b,off,rfl,fun i hi=>?_⟩
 have h1:=Yx i hi
 have h2:=hG b hb (hf b hb).1
 unfold V.hc at h1 ⊢
 rw[h2];exact h1
theorem Ch {S:Tg→Prop} {h h':Hp} {o':Ow} {t:Tg} {b:Nat} (k:Kp S Wl h o' h') (hb:o' b=some t):h.size≤b:=by
 refine Classical.byContradiction fun q=>?_
 obtain⟨_,h2⟩:=k.Zc b (by omega) (fun t ht=>by cases ht)
 rw[hb]at h2;cases h2
set_option maxHeartbeats 8000000 in
theorem vE (T:World) (h:Hp) (v:Value) (xs:List (Raw × Value)) (hv:Ts Qk 5 h v xs) (hx:∀x∈xs,Ti Wl h x.2 x.1.data) (tb:Fb Wl h) (Mp:xs.length≤4611686018427387904)
  (inv:(∀x∈YU xs,x.err=0)→xs.length≤100000→∀j,j≤xs.length→WOk (SV (((YU xs).take j).map Raw.ac))) :
  Zd Tryz.prog T 37 #[v] h fun v' h'=>Ze h.size h h'∧HT h.size h' v' (YU xs):=by
 obtain⟨p,c,rfl,Yx⟩:=OX hv
 refine Zd.XM (args:=[_]) Tryz.func37 rfl rfl rfl rfl ?_
 obtain⟨h1,YF⟩:=Zu (h.push (.cells jD.toArray 33):Hp)
 have e1:=YF.symm
 unfold jD at e1
 have b1:Ze h.size h h1:=by rw[YF];exact Ze.push (Nat.le_refl _) _
 have s1:h1.size=h.size+1:=by rw[YF];simp
 have x2:h1[h.size]? = some (.cells jD.toArray 33):=by rw[YF];exact Zb
 have rl:(YU xs).length=xs.length:=by unfold YU;simp
 have rz:∀G:Hp,Ze h1.size h1 G→G[h.size]? = some (.cells jD.toArray 33):=fun G hG=>hG.get (by omega) x2
 have wz:∀G:Hp,Ze h1.size h1 G→wr G ⟨h.size,0,none⟩ [.int .i64 0,.bool false,.bool false,.bool false,.bool false,.bool false,.slice none 0 0,.int .i64 0,.int .i64 0,.int .i64 0,.int .i64 0,.int .i64 0,.slice none 0 0]=some G:=fun G hG=>by
  rw[ZP (rz G hG) 0 _]
  have:(G.setIfInBounds h.size (.cells (Yl jD 0 [.int .i64 0,.bool false,.bool false,.bool false,.bool false,.bool false,.slice none 0 0,.int .i64 0,.int .i64 0,.int .i64 0,.int .i64 0,.int .i64 0,.slice none 0 0]).toArray 33))=G:=VA (rz G hG)
  rw[if_pos ⟨by simp[jD],rfl⟩]
  exact congrArg some this
 have rr:∀G:Hp,Ze h1.size h1 G→rd G ⟨h.size,0,none⟩ 13=some [.int .i64 0,.bool false,.bool false,.bool false,.bool false,.bool false,.slice none 0 0,.int .i64 0,.int .i64 0,.int .i64 0,.int .i64 0,.int .i64 0,.slice none 0 0]:=fun G hG=>Zo (rz G hG) rfl
 have w0:=wz h1 (Ze.refl _ _)
 have r0:=rr h1 (Ze.refl _ _)
 have l0:=Za x2
 by_cases yE:100000<xs.length
 ·have pD:(xs.length:Int)>100000:=by omega
  have e2:Wa (YU xs)=1:=by unfold Wa;rw[rl,if_pos yE]
  simp -implicitDefEqProofs only[go_sem,↓reduceIte,e1,pD,w0,r0]
  refine⟨b1,?_⟩
  unfold HT
  rw[e2,if_neg (by decide)]
  rfl
 have pD:¬(xs.length:Int)>100000:=by omega
 have Zbd:xs.length≤100000:=by omega
 have e2:Wa (YU xs)=JM (YU xs):=by unfold Wa;rw[rl,if_neg yE]
 have Fq:∀i (hi:i<xs.length),(YU xs)[i]'(by rw[rl];exact hi)=xs[i].1:=fun i hi=>by unfold YU;simp
 simp -implicitDefEqProofs only[go_sem,↓reduceIte,e1,pD]
 refine VS.ZU (fun F g=>F 0=.slice p xs.length c∧F 2=.pointer (some ⟨h.size,0,none⟩)∧F 17=.slice p xs.length c∧F 18=.int .i64 xs.length∧Ze h1.size h1 g∧∃j:Nat,j≤xs.length∧F 19=.int .i64 j∧∀x∈(YU xs).take j,x.err=0)
  (fun F _=>xs.length-(vi (F 19)).toNat) rfl ⟨rfl,rfl,rfl,rfl,Ze.refl _ _,0,Nat.zero_le _,rfl,fun x hx=>by simp at hx⟩ ?_
 rintro F2 g2 ⟨f0,f2,f17,f18,b2,j,hj,f19,hz⟩
 by_cases ZA:j<xs.length
 ·have ZH:(j:Int)<xs.length:=by omega
  obtain⟨bb,oo,rfl,Ut,RO⟩:=Yx (by intro e;rw[e]at ZA;simp at ZA)
  obtain⟨x,Tb⟩:=Zu (xs[j])
  have jE:x∈xs:=by rw[Tb];exact List.getElem_mem ZA
  have iv:=hx x jE
  obtain⟨pd,cd,Rg⟩:=iv.1.isSlice
  have r1:rd g2 ⟨bb,oo+j*5,none⟩ 5=some (Qk x):=by rw[XB (b1.trans (b2.mono (by omega))) Ut,Tb];exact RO j ZA
  unfold Qk Vj at r1
  rw[Rg]at r1
  obtain⟨g3,Fg⟩:=Zu (g2.push (.cells (Vj x.1.k x.1.n x.1.a x.1.b (.slice pd x.1.data.length cd)).toArray 36):Hp)
  have e3:=Fg.symm
  have y3:g3[g2.size]? = some (.cells (Vj x.1.k x.1.n x.1.a x.1.b (.slice pd x.1.data.length cd)).toArray 36):=by rw[Fg];exact Zb
  have r3:rd g3 ⟨g2.size,0,none⟩ 5=some (Vj x.1.k x.1.n x.1.a x.1.b (.slice pd x.1.data.length cd)):=Zo y3 rfl
  unfold Vj at e3 r3
  have b3:Ze h1.size h1 g3:=by rw[Fg];exact b2.Yg b2.size _
  have ck:=IB T g3 x.1.k x.1.n x.1.a x.1.b pd x.1.data.length cd
  unfold LQ at ck
  simp -implicitDefEqProofs only[go_sem,↓reduceIte,f0,f2,f17,f18,f19,ZH,r1,e3,r3]
  refine ck.use ?_
  rintro _ g4 ⟨rfl,b4⟩
  have B4:Ze h1.size h1 g4:=b3.trans (b4.mono b3.size)
  have exr:x.1.err=J6 x.1.k x.1.n x.1.a x.1.b x.1.data.length:=rfl
  rw[←exr]
  by_cases hex:x.1.err=0
  ·simp -implicitDefEqProofs only[go_sem,↓reduceIte,hex,f19]
   unfold Yy
   refine⟨⟨f0,f2,f17,f18,B4,j+1,ZA,rfl,fun y hy=>?_⟩,?_⟩
   ·rw[Z9 _ j (by rw[rl];exact ZA),List.mem_append]at hy
    rcases hy with hy|hy
    ·exact hz y hy
    ·rw[Fq j ZA,←Tb]at hy
     have:y=x.1:=by simpa using hy
     rw[this];exact hex
   ·simp only[vi,Zh,↓reduceIte,f19];omega
  ·have w4:=wz g4 B4
   have r4:=rr g4 B4
   have l4:=Za (rz g4 B4)
   simp -implicitDefEqProofs only[go_sem,↓reduceIte,hex,w4,r4,f2,l4]
   refine⟨b1.trans (B4.mono (by omega)),?_⟩
   unfold HT
   have:JM (YU xs)=x.1.err:=by
    have:=KI (l:=YU xs) (j:=j) (by rw[rl];exact ZA) hz (by rw[Fq j ZA,←Tb];exact hex)
    rw[this,Fq j ZA,←Tb]
   rw[e2,this,if_neg hex]
   rfl
 have YE:¬(j:Int)<xs.length:=by omega
 obtain rfl:j=xs.length:=by omega
 have YH:∀x∈YU xs,x.err=0:=fun x hx=>hz x (by rw[List.take_of_length_le (by omega)];exact hx)
 have hzero:Wa (YU xs)=0:=by rw[e2];exact Sn YH
 have inv:=inv YH Zbd
 simp -implicitDefEqProofs only[go_sem,↓reduceIte,f18,f19,YE]
 refine (pB T g2 Wl (JQ g2)).use ?_
 rintro _ g3 ⟨wb,Zpd,o3,qJ,rfl,K3,A3⟩
 unfold Zn
 have bh2:Ze h.size h g2:=b1.trans (b2.mono (by omega))
 have kh2:Kp Ve Wl h Wl g2:=Kp.Lu (JQ h) bh2 _
 obtain⟨yh,vF⟩:=Zu ((YU xs).map Raw.ac)
 have Zf6:yh.length=xs.length:=by rw[vF,List.length_map,rl]
 have inv:∀j,j≤xs.length→WOk (SV (yh.take j)):=fun j hj=>by
  have:=inv j hj
  rw[vF,←List.map_take];exact this
 simp -implicitDefEqProofs only[go_sem,↓reduceIte,f0,f2]
 refine VS.ZU (fun F g=>F 2=.pointer (some ⟨h.size,0,none⟩)∧F 7=.pointer (some ⟨wb,0,none⟩)∧F 31=.slice p xs.length c∧F 32=.int .i64 xs.length∧∃(j:Nat) (o':Ow) (Z7:Nat→Nat) (Xn:WA),j≤xs.length∧F 33=.int .i64 j∧Kp Ve Wl g2 o' g∧Ja o' g wb Z7 Xn (SV (yh.take j)))
  (fun F _=>xs.length-(vi (F 33)).toNat) rfl ⟨f2,rfl,rfl,rfl,0,o3,Zpd,qJ,Nat.zero_le _,rfl,K3,A3⟩ ?_
 clear f0 f2 f17 f18 f19 K3 A3
 rintro F4 g4 ⟨f2,f7,f31,f32,j,o4,Zpe,dm,hj,f33,K4,A4⟩
 by_cases ZA:j<xs.length
 ·have ZH:(j:Int)<xs.length:=by omega
  obtain⟨bb,oo,rfl,Ut,RO⟩:=Yx (by intro e;rw[e]at ZA;simp at ZA)
  obtain⟨x,Tb⟩:=Zu (xs[j])
  have jE:x∈xs:=by rw[Tb];exact List.getElem_mem ZA
  have zO:x.1.err=0:=YH x.1 (by unfold YU;exact List.mem_map_of_mem jE)
  obtain⟨q1,q2,q3,q4,q5⟩:=RS zO
  have Kh4:Kp Ve Wl h o4 g4:=kh2.trans K4
  have iv:=(hx x jE).Zc Kh4
  obtain⟨pd,cd,Rg⟩:=iv.1.isSlice
  have r1:rd g4 ⟨bb,oo+j*5,none⟩ 5=some (Qk x):=by rw[XB (Uq Kh4) Ut,Tb];exact RO j ZA
  unfold Qk Vj at r1
  rw[Rg]at r1 iv
  obtain⟨g5,au⟩:=Zu (g4.push (.cells (Vj x.1.k x.1.n x.1.a x.1.b (.slice pd x.1.data.length cd)).toArray 36):Hp)
  have e5:=au.symm
  have k5:Kp JK o4 g4 o4 g5:=by rw[au];exact ZW K4.ZV _
  have y5:g5[g4.size]? = some (.cells (Vj x.1.k x.1.n x.1.a x.1.b (.slice pd x.1.data.length cd)).toArray 36):=by rw[au];exact Zb
  have r5:rd g5 ⟨g4.size,0,none⟩ 5=some (Vj x.1.k x.1.n x.1.a x.1.b (.slice pd x.1.data.length cd)):=Zo y5 rfl
  unfold Vj at e5 r5
  have en:((x.1.n.toNat:Nat):Int)=x.1.n:=by omega
  have ea:((x.1.a.toNat:Nat):Int)=x.1.a:=by omega
  have cd2:=Za7 T g5 o4 wb Zpe dm (SV (yh.take j)) x.1.ac (.slice pd x.1.data.length cd) k5.ZV (A4.still k5) (inv j hj) q1 (by unfold Raw.ac;simp only;omega) (iv.Zc k5) (by unfold Raw.ac;simp only;omega) ((tb.Zc Kh4).Zc k5)
  unfold Zn Vj Raw.ac at cd2
  simp only at cd2
  rw[en,ea]at cd2
  have YM:SV (yh.take (j+1))=act (SV (yh.take j)) ⟨x.1.k,x.1.n.toNat,x.1.a.toNat,x.1.b,x.1.data⟩:=by
   rw[Z9 _ j (by rw[Zf6];exact ZA)]
   unfold SV
   rw[List.foldl_append]
   have:yh[j]'(by rw[Zf6];exact ZA)=⟨x.1.k,x.1.n.toNat,x.1.a.toNat,x.1.b,x.1.data⟩:=by
    simp only[vF,List.getElem_map,Fq j ZA,←Tb];rfl
   rw[this];rfl
  simp -implicitDefEqProofs only[go_sem,↓reduceIte,f2,f7,f31,f32,f33,ZH,r1,e5,r5]
  refine cd2.use ?_
  rintro v' g6 ⟨o6,WA6,Zpg,k6,A6⟩
  simp -implicitDefEqProofs only[go_sem,↓reduceIte,f33]
  unfold Yy
  refine⟨⟨f2,f7,f31,f32,j+1,o6,Zpg,WA6,ZA,rfl,(K4.trans (Yc k5)).trans k6,by rw[YM];exact A6⟩,?_⟩
  simp only[vi,Zh,↓reduceIte,f33];omega
 have YE:¬(j:Int)<xs.length:=by omega
 obtain rfl:j=xs.length:=by omega
 rw[List.take_of_length_le (by omega)]at A4
 have okW:=inv xs.length (Nat.le_refl _)
 rw[List.take_of_length_le (by omega)]at okW
 obtain⟨w,hw⟩:=Zu (SV yh)
 rw[←hw]at A4 okW
 have U4:=YT A4.wd.ZD.2
 have U4o:=U4.out
 have Zph:=Za A4.wd.ZD.2
 obtain⟨pf,cf,hpf,_⟩:=VP A4.wd.Zj
 obtain⟨pt,ct,jB,_⟩:=A4.wd.told.isSlice
 obtain⟨tv,htv⟩:=Zu (dm.told)
 rw[jB]at U4o htv
 obtain⟨kb,qm⟩:=Zu (g4.size)
 obtain⟨g5,au⟩:=Zu (g4.push (.cells [.int .i64 0,.bool false,.bool false,.bool false,.bool false,.bool false,.slice none 0 0,.int .i64 (w.bad 0),.int .i64 (w.bad 1),.int .i64 (w.bad 2),.int .i64 (w.bad 3),.int .i64 (w.bad 4),.slice pt w.told.length ct].toArray 33):Hp)
 have e5:=au.symm
 have y5:g5[kb]? = some (.cells [.int .i64 0,.bool false,.bool false,.bool false,.bool false,.bool false,.slice none 0 0,.int .i64 (w.bad 0),.int .i64 (w.bad 1),.int .i64 (w.bad 2),.int .i64 (w.bad 3),.int .i64 (w.bad 4),.slice pt w.told.length ct].toArray 33):=by rw[au,qm];exact Zb
 have k5:Kp JK o4 g4 o4 g5:=by rw[au];exact ZW K4.ZV _
 obtain⟨g6,TF⟩:=Zu (g5.setIfInBounds kb (.cells (Cf w 0 (.slice none 0 0) (.slice pt w.told.length ct)).toArray 33):Hp)
 have w6:Jn g5 ⟨kb,0,none⟩ (.int .i64 w.Zj.length)=some g6:=by rw[Yq y5 0 _,TF];rfl
 have l5:=Za y5
 obtain⟨o6,ho6⟩:=Zu (Jt o4 kb (.log 101))
 have k6:Kp aL o4 g4 o6 g6:=by rw[ho6,TF];exact ((ZC k5).TT (by omega) l5 (.inr rfl)).BO (by omega) _
 have B6:QK o6 (.log 101) g6 kb (.cells (Cf w 0 (.slice none 0 0) (.slice pt w.told.length ct)).toArray 33):=⟨by rw[ho6];exact YV,by rw[TF];exact Zw y5⟩
 have A5:=A4.still k5
 have U5:=YT A5.wd.ZD.2
 have U5f:=U5.Zj
 rw[hpf]at U5f
 have az:=Za A5.wd.ZD.2
 have nof:∀t,aL t→t.of≠none:=by rintro t (rfl|rfl) e<;>cases e
 have non:∀t (i:Nat),i<5→aL t→t.of≠some i:=by
  rintro t i hi (rfl|rfl) e
  ·have:=Option.some.inj e;omega
  ·have:=Option.some.inj e;omega
 have W6:=A4.wd.Zc k6 nof
 obtain⟨bn,Zpj,cn,hn,kP,hbn,Zbe⟩:=U8 W6
 have U6n:=(YT W6.ZD.2).nodes
 rw[hn]at U6n
 have Zf7:=Za W6.ZD.2
 simp -implicitDefEqProofs only[go_sem,↓reduceIte,f32,f33,YE,f2,f7,U4o,Zph,e5]
 rw[←qm]
 simp -implicitDefEqProofs only[go_sem,↓reduceIte,f7,U5f,az,w6,l5,U6n,Zf7]
 refine VS.ZU (fun F g=>F 2=.pointer (some ⟨h.size,0,none⟩)∧F 10=.pointer (some ⟨kb,0,none⟩)∧F 54=.slice (some ⟨bn,Zpj,none⟩) 5 cn∧F 55=.int .i64 5∧∃(j:Nat) (o':Ow) (lv:Value) (vs:List Value),j≤5∧F 56=.int .i64 j∧Kp aL o4 g4 o' g∧QK o' (.log 101) g kb (.cells (Cf w j lv (.slice pt w.told.length ct)).toArray 33) ∧
   Ys o' (.log 100) 37 1 g lv j vs∧Et (fun v l=>Im o' 5 g v l.length (Zz J8.C l)∧∀b,ZM v=some b→g4.size≤b) vs (OY w j))
  (fun F _=>5-(vi (F 56)).toNat) rfl ⟨f2,rfl,rfl,rfl,0,o6,.slice none 0 0,[],by omega,rfl,k6,B6,Ys.nil _ _ _ _ _,.nil⟩ ?_
 clear f2 f7 f31 f32 f33 B6 k6 w6 l5 U6n Zf7 W6 Zbe hbn ho6 TF y5 e5
 rintro F7 g7 ⟨f2,f10,f54,f55,j,o7,lv,vs,hj,f56,K7,B7,O7,L7⟩
 have W7:=A4.wd.Zc K7 nof
 by_cases ZA:j<5
 ·have ZH:(j:Int)<5:=by omega
  obtain⟨na,N4j⟩:=A4.nd j ZA
  have N7:=N4j.Zc K7 (fun t q=>non t j ZA q)
  obtain⟨bn',ZuL,cn',S4,ZBq,hbn,Zbe⟩:=U8 W7
  rw[hn]at S4
  simp only[Value.slice.injEq,Option.some.injEq,Addr.mk.injEq,true_and,and_true]at S4
  obtain⟨⟨rfl,rfl⟩,rfl⟩:=S4
  have ri:=Zbe j ZA
  unfold Zn at ri
  have P7:=Zy N7.ZD.2 N7.pt.store.len
  have P7u:=P7.up
  have ZaT:=Za N7.ZD.2
  have l7:=Za B7.2
  obtain⟨g8,IL⟩:=Zu (g7.setIfInBounds kb (.cells (Cf w (j+1) lv (.slice pt w.told.length ct)).toArray 33):Hp)
  have w8:Jn g7 ⟨kb,1+j,none⟩ (.bool (w.nodes j).up)=some g8:=by
   rw[Yq B7.2,if_pos ⟨by rw[dB];omega,rfl⟩,Zbc w j lv _ ZA,IL]
  have k8:Kp aL o7 g7 o7 g8:=by rw[IL];exact (Kp.refl K7.ZV aL).set B7.1 (.inr rfl) _
  have k8':Kp (fun t=>t=.log 101) o7 g7 o7 g8:=by rw[IL];exact (Kp.refl K7.ZV (fun t=>t=.log 101)).set B7.1 rfl _
  have B8:QK o7 (.log 101) g8 kb (.cells (Cf w (j+1) lv (.slice pt w.told.length ct)).toArray 33):=⟨B7.1,by rw[IL];exact Zw B7.2⟩
  have O8:=O7.Zc k8' (by intro e;cases e)
  have L8:=Oj L7 (R':=fun v l=>Im o7 5 g8 v l.length (Zz J8.C l)∧∀b,ZM v=some b→g4.size≤b) (fun v l q=>⟨q.1.Zc k8,q.2⟩)
  have K8:=K7.trans k8
  have N8:=N7.Zc k8 (fun t q=>non t j ZA q)
  have P8l:=(Zy N8.ZD.2 N8.pt.store.len).log
  obtain⟨pl,cl,M1,_⟩:=Ys.isSlice N8.pt.log
  have M1:na.log=.slice pl (w.nodes j).log.length cl:=M1
  rw[M1]at P8l
  have Tl:=N8.pt.log.ts
  rw[M1]at Tl
  have vd:=Za N8.ZD.2
  have l8:=Za B8.2
  obtain⟨plv,clv,rfl,_⟩:=O8.isSlice
  have r8:hc g8 ⟨kb,6,none⟩=some (.slice plv j clv):=Zg B8.2
  have cc:=aJ T g8 (.slice pl (w.nodes j).log.length cl) (w.nodes j).log Tl (by have:=okW.log j ZA;omega)
  simp -implicitDefEqProofs only[go_sem,↓reduceIte,f2,f10,f54,f55,f56,ZH,ri,P7u,ZaT,w8,l7,hbn]
  refine VS.z (g8.size) [8,10] (.p 0 (.q 1 (.p 2 (.p 3 (.p 4 (.q 5 (.s 6 (.s 7 (.w 8 (.p 9 (.w 10 .nil))))))))))) mixed (by kernel_rfl) ?_
  simp -implicitDefEqProofs only[go_sem,↓reduceIte,f2,f10,r8,P8l,vd,l8]
  refine cc.use ?_
  rintro v9 g9 ⟨o9,b9⟩
  have k9:Kp JK o7 g8 o7 g9:=Zs K8.ZV b9
  have im9:Im o7 5 g9 v9 (w.nodes j).log.length (Zz J8.C (w.nodes j).log):=Im.Qy o9.own (fun b hb=>K8.ZV b hb)
  have lo9:∀b,ZM v9=some b→g4.size≤b:=fun b hb=>Nat.le_trans K8.size (o9.own.ZD b hb)
  obtain⟨p9,c9,rfl⟩:=im9.isSlice
  obtain⟨g10,vG⟩:=Zu (g9.push (.cells [.slice p9 (w.nodes j).log.length c9].toArray 37):Hp)
  have e10:=vG.symm
  have gX:Kp JK o7 g9 o7 g10:=by rw[vG];exact ZW k9.ZV _
  have K10:Kp aL o4 g4 o7 g10:=(K8.trans (ZC k9)).trans (ZC gX)
  have B10:=(B8.Zc k9 (fun q=>q)).Zc gX (fun q=>q)
  have O10:=(O8.Zc k9 (fun q=>q)).Zc gX (fun q=>q)
  have Zpl:=im9.Zc gX
  have x10:g10[g9.size]? = some (.cells [.slice p9 (w.nodes j).log.length c9].toArray 37):=by rw[vG];exact Zb
  have src:Sl 1 g10 (.slice (some ⟨g9.size,0,none⟩) 1 1) 1 [.slice p9 (w.nodes j).log.length c9]:=⟨_,1,rfl,rfl,fun _=>⟨g9.size,0,rfl,fun i hi=>by
   rw[Zg x10,Yj,Nat.zero_add];exact List.getElem?_eq_getElem hi⟩⟩
  simp -implicitDefEqProofs only[go_sem,↓reduceIte,b9,e10]
  refine⟨by rw[vG];exact b9.Yg b9.size _,?_⟩
  refine XW (E:=37) (n:=1) (bytes:=24) (k:=1) Zdy Tryz.underlying29 ZkN ZkP rfl ZkO O10 K10.ZV src rfl (by omega) (by omega) ?_
  intro v11 o11 qH O11 jx _
  have jx:Kp (fun u=>u=.log 100) o7 g10 o11 qH:=jx
  obtain⟨p11,c11,rfl,_⟩:=O11.isSlice
  have B11:=B10.Zc jx (by intro e;cases e)
  have l11:=Za B11.2
  obtain⟨g12,EO⟩:=Zu (qH.setIfInBounds kb (.cells (Cf w (j+1) (.slice p11 (j+1) c11) (.slice pt w.told.length ct)).toArray 33):Hp)
  have w12:Jn qH ⟨kb,6,none⟩ (.slice p11 (j+1) c11)=some g12:=by
   rw[Yq B11.2,if_pos ⟨by rw[dB];omega,rfl⟩,vD,EO]
  have oq:Kp (fun t=>t=.log 101) o11 qH o11 g12:=by rw[EO];exact (Kp.refl jx.ZV (fun t=>t=.log 101)).set B11.1 rfl _
  have jF:QK o11 (.log 101) g12 kb (.cells (Cf w (j+1) (.slice p11 (j+1) c11) (.slice pt w.told.length ct)).toArray 33):=⟨B11.1,by rw[EO];exact Zw B11.2⟩
  simp -implicitDefEqProofs only[go_sem,↓reduceIte,f10,w12,l11,f56]
  unfold Yy
  refine⟨⟨f2,f10,f54,f55,j+1,o11,.slice p11 (j+1) c11,vs++[.slice p9 (w.nodes j).log.length c9],ZA,rfl,(K10.trans (jx.mono fun t q=>.inl q)).trans (oq.mono fun t q=>.inr q),jF,O11.Zc oq (by intro e;cases e),?_⟩,?_⟩
  ·rw[Cg]
   refine D1 (Oj L8 fun v l q=>⟨((((q.1.Zc k9).Zc gX).Zc jx).Zc oq),q.2⟩) ⟨(Zpl.Zc jx).Zc oq,lo9⟩
  ·simp only[vi,Zh,↓reduceIte,f56];omega
 have YE:¬(j:Int)<5:=by omega
 obtain rfl:j=5:=by omega
 have bx7:ZL o7 g7 h.size (.cells jD.toArray 33):=ZL.Zc (ZL.Zc (o:=Wl) ⟨rfl,rz g2 b2⟩ K4) K7
 have rk:rd g7 ⟨kb,0,none⟩ 13=some (Cf w 5 lv (.slice pt w.told.length ct)):=Zo B7.2 rfl
 obtain⟨g8,IL⟩:=Zu (g7.setIfInBounds h.size (.cells (Cf w 5 lv (.slice pt w.told.length ct)).toArray 33):Hp)
 have w8:wr g7 ⟨h.size,0,none⟩ (Cf w 5 lv (.slice pt w.told.length ct))=some g8:=by
  obtain⟨plv,clv,rfl,_⟩:=O7.isSlice
  rw[ZP bx7.2 0 _,IL];rfl
 have l7:=Za bx7.2
 have r8:rd g8 ⟨h.size,0,none⟩ 13=some (Cf w 5 lv (.slice pt w.told.length ct)):=Zo (by rw[IL];exact Zw bx7.2) rfl
 have K7a:Kp Ve Wl h o7 g7:=(kh2.trans K4).trans (Yc K7)
 have vl:vs.length=5:=by have:=O7.length;omega
 have bound:h.size<g4.size:=Nat.lt_of_lt_of_le (Za (rz g2 b2)) K4.size
 rw[show Cf w 5 lv (.slice pt w.told.length ct)=HS w lv (.slice pt w.told.length ct) from rfl]at rk w8 r8
 unfold HS at rk w8 r8
 simp -implicitDefEqProofs only[go_sem,↓reduceIte,f55,f56,YE,f2,f10,rk,w8,l7,r8]
 refine⟨by rw[IL];exact (Uq K7a).Zk (Nat.le_refl _) _,?_⟩
 unfold HT
 rw[hzero,if_pos rfl,←vF,←hw]
 refine⟨_,lv,.slice pt w.told.length ct,vs,rfl,fun G hG=>?_⟩
 have wt:=W7.told
 rw[jB]at wt
 have Yr:∀b,b<g7.size→b≠h.size→G[b]? = g8[b]? → G[b]? = g7[b]?:=fun b _ h2 e=>by rw[e,IL,Array.getElem?_setIfInBounds,if_neg (fun e=>h2 e.symm)]
 have hs8:g8.size=g7.size:=by rw[IL];simp
 have own:∀t,∀b,o7 b=some t→b<g7.size→G[b]? = g7[b]?:=fun t b q1 q2=>Yr b q2 (fun e=>by rw[e,bx7.1]at q1;cases q1) (hG b (Ch K7a q1) (by omega))
 refine⟨rfl,⟨by rw[iM,vl];exact (dC O7 (own _)).sl⟩,?_,⟨(dC wt (own _)).sl⟩,Oj (k:=OY w 5) L7 fun v l q=>q.1.fits⟩
 refine Oj (k:=OY w 5) L7 fun v l q=>⟨Zf5 q.1 fun b hb ZA=>?_⟩
 have:=q.2 b hb
 exact Yr b ZA (by omega) (hG b (by omega) (by omega))
structure CmI (C:List Cm) (w v:Wd) (m:Nat):Prop where
 nd:∀i,i<5→Qo C i (v.nodes i)
 aG:∀i,i<5→∀l∈(v.nodes i).inbox,Qj C l
 iL:v.Zj=w.Zj
 sum:RQ (fun i=>(v.nodes i).inbox.length)≤RQ (fun i=>(w.nodes i).inbox.length)+m
 wait:RQ (fun i=>(v.nodes i).waiting.length)=RQ (fun i=>(w.nodes i).waiting.length)
 told:v.told=w.told
 bad:v.bad=w.bad
theorem aM {C:List Cm} {w:Wd} {l:Y9} (h1:∀i,i<5→Qo C i (w.nodes i)) (h2:∀i,i<5→∀l∈(w.nodes i).inbox,Qj C l) (hl:Qj C l):CmI C w (Jr w l) 1:=by
 have yf:l.to.toNat<5:=by have:=hl.to;omega
 unfold Jr
 split
 ·refine⟨fun i hi=>?_,fun i hi x hx=>?_,rfl,?_,?_,rfl,rfl⟩
  ·unfold Wd.set
   by_cases e:i=l.to.toNat
   ·simp only[if_pos e]
    rw[e]
    exact { h1 _ yf with }
   ·simp only[if_neg e];exact h1 i hi
  ·unfold Wd.set at hx
   by_cases e:i=l.to.toNat
   ·simp only[if_pos e]at hx
    rcases List.mem_append.1 hx with hx|hx
    ·exact h2 _ yf x hx
    ·have:x=l:=by simpa using hx
     rw[this];exact hl
   ·simp only[if_neg e]at hx;exact h2 i hi x hx
  ·have:=Oi w l.to.toNat { w.nodes l.to.toNat with inbox:=(w.nodes l.to.toNat).inbox++[l] } (fun n=>n.inbox.length) yf
   unfold Wd.set
   simp only[List.length_append,List.length_singleton]at this ⊢
   omega
  ·have:=Oi w l.to.toNat { w.nodes l.to.toNat with inbox:=(w.nodes l.to.toNat).inbox++[l] } (fun n=>n.waiting.length) yf
   unfold Wd.set
   simp only at this ⊢
   omega
 ·exact⟨h1,h2,rfl,by omega,rfl,rfl,rfl⟩
theorem vH {C:List Cm}:∀(ls:List Y9) (w:Wd),(∀i,i<5→Qo C i (w.nodes i))→(∀i,i<5→∀l∈(w.nodes i).inbox,Qj C l)→(∀l∈ls,Qj C l)→CmI C w (ls.foldl Jr w) ls.length:=by
 intro ls
 induction ls with
 | nil=>intro w h1 h2 _;exact⟨h1,h2,rfl,by simp,rfl,rfl,rfl⟩
 | cons l ls ih=>
  intro w h1 h2 h3
  have a:=aM h1 h2 (h3 l (by simp))
  have b:=ih (Jr w l) a.nd a.aG (fun x hx=>h3 x (by simp[hx]))
  refine⟨b.nd,b.aG,by rw[List.foldl_cons,b.iL,a.iL],?_,by rw[List.foldl_cons,b.wait,a.wait],by rw[List.foldl_cons,b.told,a.told],by rw[List.foldl_cons,b.bad,a.bad]⟩
  have h4:=b.sum
  have h5:=a.sum
  simp only[List.foldl_cons,List.length_cons]
  omega
theorem WI.pE {C:List Cm} {k:Nat} {w u v:Wd} {m:Nat} (h:WI C k w) (c:CmI C u v m) (hu1:u.nodes=w.nodes) (hu2:∀l∈u.Zj,l∈w.Zj) (hu3:u.told=w.told) (hu4:u.bad=w.bad) (hm:u.Zj.length+m≤w.Zj.length+1):WI C (k+1) v:=by
 have hs:=c.sum
 have hw:=c.wait
 rw[hu1]at hs hw
 have h1:=h.room
 have h2:=h.wait
 refine⟨c.nd,c.aG,fun l hl=>h.iL l (hu2 l (by rw[←c.iL];exact hl)),?_,?_,fun i=>by rw[c.bad,hu4];have:=h.bad i;omega⟩
 ·rw[c.iL];omega
 ·rw[c.told,hu3,hw];omega
theorem Zbf {C:List Cm} {k:Nat} {w:Wd} (h:WI C k w) (at':Nat) (comes stays:Bool):WI C (k+1) (pick w at' comes stays):=by
 unfold pick
 split
 ·exact h.more
 ·rename_i l hl
  have uX:l∈w.Zj:=List.mem_of_getElem? hl
  have yc:=h.iL l uX
  have el:(w.Zj.eraseIdx (at'%w.Zj.length)).length+1≤w.Zj.length+1:=by
   have:=List.length_eraseIdx_le w.Zj (at'%w.Zj.length);omega
  have el2:(w.Zj.eraseIdx (at'%w.Zj.length)).length≤w.Zj.length:=by omega
  cases comes with
  | true=>
   cases stays with
   | true=>exact h.pE (u:=w) (aM h.nd h.aG yc) rfl (fun l q=>q) rfl rfl (by omega)
   | false=>exact h.pE (u:={ w with Zj:=w.Zj.eraseIdx (at'%w.Zj.length) }) (aM h.nd h.aG yc) rfl (fun l q=>List.mem_of_mem_eraseIdx q) rfl rfl el
  | false=>
   cases stays with
   | true=>exact h.more
   | false=>exact h.pE (u:={ w with Zj:=w.Zj.eraseIdx (at'%w.Zj.length) }) (m:=0) ⟨h.nd,h.aG,rfl,by simp,rfl,rfl,rfl⟩ rfl (fun l q=>List.mem_of_mem_eraseIdx q) rfl rfl (by simp only;omega)
def Ok (rc:List Nat):Cm:=⟨Xc ((YR rc).drop 22) 0,Xc ((YR rc).drop 22) 1,Xc ((YR rc).drop 22) 2,Xc ((YR rc).drop 22) 3,Xc ((YR rc).drop 22) 4⟩
theorem pF (n:Nd) (x:Cm):(Kq n x).waiting.length≤n.waiting.length+1:=by
 unfold Kq;split
 ·omega
 ·simp
theorem pG {C:List Cm} {k:Nat} {w:Wd} (h:WI C k w) {i:Nat} (hi:i<5) {rc:List Nat} (hc:Ok rc∈C):WI C (k+1) (QV w i rc):=by
 unfold QV
 split
 ·split
  ·refine⟨h.nd,h.aG,h.iL,Nat.le_trans h.room (Nat.mul_le_mul_right _ (Nat.le_succ k)),Nat.le_trans h.wait (Nat.le_succ k),fun j=>?_⟩
   have h1:=h.bad j
   have h2:=h.bad i
   simp only
   split<;>omega
  ·rename_i q
   have e:Qx rc (w.nodes i).log.length=Ok rc:=by
    unfold Qx Ok
    rw[if_pos (by simpa using q)]
   rw[e]
   split
   ·have hw:=h.wait
    refine⟨h.nd,h.aG,h.iL,Nat.le_trans h.room (Nat.mul_le_mul_right _ (Nat.le_succ k)),by simp only[List.length_append,List.length_singleton];omega,fun j=>by have:=h.bad j;simp only;omega⟩
   ·rw[MQ]
    have ha:=yg (h.nd i hi) hc
    have s1:(add (w.nodes i) (Ok rc)).inbox=(w.nodes i).inbox:=by unfold add;split<;>rfl
    have s2:(Kq (add (w.nodes i) (Ok rc)) (Ok rc)).inbox=(w.nodes i).inbox:=by unfold Kq;split<;>exact s1
    have s3:=pF (add (w.nodes i) (Ok rc)) (Ok rc)
    have s4:=(add_same (w.nodes i) (Ok rc)).1
    refine h.out hi ?_ (fun l hl=>by cases hl) (by simp only[s2];exact h.aG i hi) (by simp only[s2];simp) (by simp only[List.length_nil];rw[s4]at s3;omega)
    unfold Kq
    simp only
    split
    ·exact ha
    ·exact { ha with }
 ·exact h.more
theorem Zga {C:List Cm} (hC:C.length≤100000) {k:Nat} {w:Wd} (h:WI C k w) (a:Ac) (hi:a.node<5) (hc:Ok a.data∈C):WI C (k+1) (act w a):=by
 have hn:=h.nd a.node hi
 have hb:=h.aG a.node hi
 unfold act
 split
 ·exact pG h hi hc
 split
 ·obtain⟨l1,l2,l3⟩:=Za6 hn
  rw[MQ]
  exact h.out hi l1 (fun l hl=>by cases hl) (by simp only[l2];exact hb) (by simp only[l2];simp) (by simp only[l3];simp)
 split
 ·obtain⟨s1,s2,s3,s4,s5⟩:=Za4 hi hC hn hb
  exact h.out hi s1 s2 s3 (by omega) (by omega)
 split
 ·exact Zbf h _ _ _
 split
 ·have c:=vH w.Zj { w with Zj:=[] } h.nd h.aG h.iL
  exact h.pE c rfl (fun l hl=>by cases hl) rfl rfl (by simp)
 split
 ·obtain⟨c1,c2⟩:=iJ hn a.Zc
  rw[MQ]
  rcases c2 with⟨c2,c3⟩|c2
  ·exact h.out hi c1 (fun l hl=>by cases hl) (by simp only[c2];intro l hl;cases hl) (by simp only[c2];simp) (by simp only[c3];simp)
  ·exact h.out hi c1 (fun l hl=>by cases hl) (by simp only[c2];exact hb) (by simp only[c2];simp) (by simp only[c2];simp)
 ·obtain⟨c1,c2⟩:=iK hn
  rw[MQ]
  rcases c2 with⟨c2,c3⟩|c2
  ·exact h.out hi c1 (fun l hl=>by cases hl) (by simp only[c2];intro l hl;cases hl) (by simp only[c2];simp) (by simp only[c3];simp)
  ·exact h.out hi c1 (fun l hl=>by cases hl) (by simp only[c2];exact hb) (by simp only[c2];simp) (by simp only[c2];simp)
theorem KK (C:List Cm):WI C 0 Va:=by
 refine⟨fun i hi=>MP (by simp) HP.zero,(fun i hi l hl=>by cases hl),(fun l hl=>by cases hl),by simp[Va,RQ,blank],by simp[Va,RQ,blank],fun i=>by simp[Va]⟩
theorem aN {C:List Cm} (hC:C.length≤100000):∀(l:List Ac) (k:Nat) (w:Wd),WI C k w→(∀a∈l,a.node<5∧Ok a.data∈C)→WI C (k+l.length) (l.foldl act w):=by
 intro l
 induction l with
 | nil=>intro k w h _;exact h
 | cons a l ih=>
  intro k w h hl
  have:=ih (k+1) (act w a) (Zga hC h a (hl a (by simp)).1 (hl a (by simp)).2) (fun x hx=>hl x (by simp[hx]))
  rw[List.length_cons,show k+(l.length+1)=k+1+l.length by omega]
  exact this
theorem vI (xs:List (Raw × Value)) (hz:∀x∈YU xs,x.err=0) (hl:xs.length≤100000) (j:Nat) (hj:j≤xs.length):WOk (SV (((YU xs).take j).map Raw.ac)):=by
 obtain⟨C,hC⟩:∃C,C=(YU xs).map fun x=>Ok x.data:=⟨_,rfl⟩
 have rl:(YU xs).length=xs.length:=by unfold YU;simp
 have nN:C.length≤100000:=by rw[hC,List.length_map,rl];exact hl
 have:=aN nN (((YU xs).take j).map Raw.ac) 0 Va (KK C) (fun a ha=>by
  obtain⟨x,hx,rfl⟩:=List.mem_map.1 ha
  have hx:=List.mem_of_mem_take hx
  obtain⟨_,h2,_,_,_⟩:=RS (hz x hx)
  refine⟨by unfold Raw.ac;simp only;omega,?_⟩
  rw[hC]
  exact List.mem_map.2 ⟨x,hx,rfl⟩)
 refine this.ok nN ?_
 rw[List.length_map,List.length_take]
 omega
theorem vJ (T:World) (h:Hp) (v:Value) (xs:List (Raw × Value)) (hv:Ts Qk 5 h v xs) (hx:∀x∈xs,Ti Wl h x.2 x.1.data) (tb:Fb Wl h) (Mp:xs.length≤4611686018427387904) :
  Zd Tryz.prog T 37 #[v] h fun v' h'=>Ze h.size h h'∧HT h.size h' v' (YU xs):=
 vE T h v xs hv hx tb Mp fun h1 h2 j hj=>vI xs h1 h2 j hj
def JO (n m:Int):Int:=(if n<0 then 0-(n+1) else n)%m
theorem Qh (n:Int) {m:Int} (h:0<m):0≤JO n m∧JO n m<m:=⟨Int.emod_nonneg _ (by omega),Int.emod_lt_of_pos _ h⟩
def i64 (n:Int):Prop:=-9223372036854775808≤n∧n<9223372036854775808
theorem UO (T:World) (h:Hp) (n m:Int) (hn:i64 n) (hm:1≤m) (tW:m≤1000000) :
  Zd Tryz.prog T 30 #[.int .i64 n,.int .i64 m] h fun v' h'=>v'=.int .i64 (JO n m)∧h'=h:=by
 unfold i64 at hn
 refine Zd.Zi (args:=[_,_]) Tryz.func30 rfl rfl rfl rfl ?_
 have hm0:¬m=0:=by omega
 by_cases q:n<0
 ·have e:JO n m=(0-(n+1)).tmod m:=by unfold JO;rw[if_pos q,Int.tmod_eq_emod_of_nonneg (by omega)]
  rw[e]
  simp -implicitDefEqProofs only[go_sem,↓reduceIte,q,hm0]
 ·have e:JO n m=n.tmod m:=by unfold JO;rw[if_neg q,Int.tmod_eq_emod_of_nonneg (by omega)]
  rw[e]
  simp -implicitDefEqProofs only[go_sem,↓reduceIte,q,hm0]
theorem XI (T:World) (h:Hp) (n m:Int) (hn:i64 n) (hm:1≤m) (tW:m≤1000000) :
  Zd Tryz.prog T 18 #[.int .i64 n,.int .i64 m] h fun v' h'=>v'=.int .i64 (JO n m)∧h'=h:=by
 refine Zd.Zi (args:=[_,_]) Tryz.func18 rfl rfl rfl rfl ?_
 simp -implicitDefEqProofs only[go_sem,↓reduceIte]
 refine (UO T h n m hn hm tW).pure ?_
 simp -implicitDefEqProofs only[go_sem,↓reduceIte]
def Zgb (k c s n v:Int):List Value:=[.int .i64 k,.int .i64 c,.int .i64 s,.int .i64 n,.int .i64 v]
def cmW (k c s n v:Int):Cm:=⟨1+(JO k 5).tdiv 2,JO c 4,JO s 6,JO n 4,if 1+(JO k 5).tdiv 2=1 then JO v 1000 else 0⟩
theorem Ci (T:World) (h:Hp) (k c s n v:Int) (hk:i64 k) (hc:i64 c) (hs:i64 s) (hn:i64 n) (hv:i64 v) :
  Zd Tryz.prog T 27 #[.agg (Zgb k c s n v).toArray] h fun v' h'=>v'=.agg (cmW k c s n v).C.toArray∧Ze h.size h h':=by
 refine Zd.Zi (args:=[_]) Tryz.func27 rfl rfl rfl rfl ?_
 unfold Zgb
 simp -implicitDefEqProofs only[go_sem,↓reduceIte]
 refine VS.w (h.size+2) [16] (.q 0 (.q 1 (.q 2 (.q 3 (.q 4 (.q 5 (.q 6 (.q 7 (.q 8 (.q 9 (.q 10 (.q 11 (.q 12 (.q 13 (.q 14 (.s 15 (.w 16 .nil))))))))))))))))) mixed (by kernel_rfl) ?_
 simp -implicitDefEqProofs only[go_sem,↓reduceIte]
 refine JH (fun h=>UO T h k 5 hk (by omega) (by omega)) ?_
 simp -implicitDefEqProofs only[go_sem,↓reduceIte]
 refine JH (fun h=>UO T h c 4 hc (by omega) (by omega)) ?_
 simp -implicitDefEqProofs only[go_sem,↓reduceIte]
 refine JH (fun h=>UO T h s 6 hs (by omega) (by omega)) ?_
 simp -implicitDefEqProofs only[go_sem,↓reduceIte]
 refine JH (fun h=>UO T h n 4 hn (by omega) (by omega)) ?_
 have r1:=Qh k (m:=5) (by omega)
 generalize ON:JO k 5=K at *
 have r2:0≤K.tdiv 2∧K.tdiv 2≤2:=by rw[Int.tdiv_eq_ediv_of_nonneg r1.1];omega
 unfold cmW
 rw[ON]
 generalize K.tdiv 2=J at *
 by_cases q:1+J=1
 ·simp -implicitDefEqProofs only[go_sem,↓reduceIte,q]
  refine⟨Ze.push (by simp) _,(UO T _ v 1000 hv (by omega) (by omega)).pure ?_⟩
  simp -implicitDefEqProofs only[go_sem,↓reduceIte,q]
  exact⟨rfl,(((Ze.refl _ _).add _).add _).add _⟩
 ·simp -implicitDefEqProofs only[go_sem,↓reduceIte,q]
  exact⟨Ze.push (by simp) _,rfl,(((Ze.refl _ _).add _).add _).add _⟩
structure Gr where
 k:Int
 a:Int
 b:Int
 c:Int
 d:Int
def Gr.C (g:Gr):List Value:=[.int .i64 g.k,.int .i64 g.a,.int .i64 g.b,.int .i64 g.c,.int .i64 g.d]
def Gr.ok (g:Gr):Prop:=(i64 g.k∧i64 g.a)∧i64 g.b∧i64 g.c∧i64 g.d
def Me (g:Gr):Cm:=cmW g.b g.c g.d g.a g.d
def aO (g:Gr):Int:=if JO g.d 17=16 then ((Me g).c+1).tmod 4 else (Me g).c
def aP (g:Gr):Int:=if JO g.d 17=15 then 0 else 7
def vK (n c r u:Int) (x:Cm):List Nat:=if WZ n c r u x.k x.c x.s x.n x.v=0 then Dy n c r u x.k x.c x.s x.n x.v else []
def QM (g:Gr):List Nat:=vK (JO g.a 1000) (aO g) (aP g) 60 (Me g)
def Jq (g:Gr):List Nat:=if JO g.d 23=22∧30<(QM g).length then (QM g).take 30 else QM g
theorem Fs (T:World) (h:Hp) (g:Gr) (hg:g.ok) (tk:Tk h) :
  Zd Tryz.prog T 44 #[.agg g.C.toArray] h fun v' h'=>Z1 h.size 5 h' v' (Jq g)∧Ze h.size h h':=by
 obtain⟨⟨wk,wa⟩,wb,wc,wd⟩:=hg
 refine Zd.Zi (args:=[_]) Tryz.func44 rfl rfl rfl rfl ?_
 unfold Gr.C
 have c1:∀h:Hp,Zd Tryz.prog T 27 #[.agg #[.int .i64 g.b,.int .i64 g.c,.int .i64 g.d,.int .i64 g.a,.int .i64 g.d]] h fun v' h'=>v'=.agg (Me g).C.toArray∧Ze h.size h h':=fun h=>Ci T h g.b g.c g.d g.a g.d wb wc wd wa wd
 obtain⟨h0,XR⟩:=Zu (h.push (.cells g.C.toArray 81):Hp)
 have y0:h0[h.size]? = some (.cells g.C.toArray 81):=by rw[XR];exact Zb
 have b0:Ze h.size h h0:=by rw[XR];exact (Ze.refl _ _).add _
 have e0:=XR.symm
 unfold Gr.C at e0 y0
 have s0:h0.size=h.size+1:=by rw[XR];simp
 have l0:=Za y0
 have u1:hc h0 ⟨h.size,1,none⟩=some (.int .i64 g.a):=Zg y0
 have u2:hc h0 ⟨h.size,2,none⟩=some (.int .i64 g.b):=Zg y0
 have u3:hc h0 ⟨h.size,3,none⟩=some (.int .i64 g.c):=Zg y0
 have u4:hc h0 ⟨h.size,4,none⟩=some (.int .i64 g.d):=Zg y0
 simp -implicitDefEqProofs only[go_sem,↓reduceIte,e0,u1,u2,u3,u4,l0]
 refine (c1 h0).use ?_
 rintro _ h1 ⟨rfl,b1⟩
 have B1:Ze h.size h h1:=b0.trans (b1.mono b0.size)
 have s1:=b1.size
 have y1:=b1.get l0 y0
 obtain⟨X,hX⟩:=Zu (Me g)
 rw[←hX]
 have hXc:0≤X.c∧X.c<4:=by rw[hX];exact Qh g.c (by omega)
 obtain⟨h2,Wb⟩:=Zu ((h1.push (.cells X.C.toArray 47)).push (.cells [.int .i64 X.c,.int .i64 7,.int .i64 60].toArray 75):Hp)
 have e2:=Wb.symm
 unfold J8.C Qi at e2 ⊢
 have y4:hc h2 ⟨h.size,4,none⟩=some (.int .i64 g.d):=by
  have:h2[h.size]? = some (.cells [.int .i64 g.k,.int .i64 g.a,.int .i64 g.b,.int .i64 g.c,.int .i64 g.d].toArray 81):=by
   rw[Wb,Zq (by simp;omega),Zq (by omega)];exact y1
  exact Zg this
 simp -implicitDefEqProofs only[go_sem,↓reduceIte,e2,y4]
 refine (XI T h2 g.d 17 wd (by omega) (by omega)).pure ?_
 have s2:h2.size=h1.size+2:=by rw[Wb];simp
 have t2:h2[h1.size+1]? = some (.cells [.int .i64 X.c,.int .i64 7,.int .i64 60].toArray 75):=by rw[Wb,Array.getElem?_push,if_pos (by simp)]
 have x2:h2[h1.size]? = some (.cells X.C.toArray 47):=by rw[Wb,Zq (by simp),Zb]
 have b2:Ze h1.size h1 h2:=by rw[Wb];exact ((Ze.refl _ _).add _).add _
 have yg2:=b2.get (Za y1) y1
 have B2:Ze h.size h h2:=B1.trans (b2.mono B1.size)
 have Yr:h1.size+1≠h.size:=by have:=B1.size;omega
 have Ds:h1.size+1≠h1.size:=by omega
 clear e2 Wb e0 XR y4
 have three:∀tc tr:Int,tc=aO g→tr=aP g→∃g3:Hp,g3=h2.setIfInBounds (h1.size+1) (.cells [.int .i64 tc,.int .i64 tr,.int .i64 60].toArray 75)∧Ze h.size h g3∧g3.size=h2.size∧g3[h1.size+1]? = some (.cells [.int .i64 (aO g),.int .i64 (aP g),.int .i64 60].toArray 75)∧g3[h1.size]? = some (.cells X.C.toArray 47)∧g3[h.size]? = some (.cells [.int .i64 g.k,.int .i64 g.a,.int .i64 g.b,.int .i64 g.c,.int .i64 g.d].toArray 81):=fun tc tr e1 e2=>by
  refine⟨_,rfl,B2.Zk (by have:=B1.size;omega) _,by simp,?_,?_,?_⟩
  ·rw[←e1,←e2];exact Zw t2
  ·rw[Yh Ds];exact x2
  ·rw[Yh Yr];exact yg2
 have rc2:hc h2 ⟨h1.size+1,0,none⟩=some (.int .i64 X.c):=Zg t2
 have l2:=Za t2
 have h3c:∃g3:Hp,((JO g.d 17=15∧Jn h2 ⟨h1.size+1,1,none⟩ (.int .i64 0)=some g3)∨(JO g.d 17=16∧Jn h2 ⟨h1.size+1,0,none⟩ (.int .i64 ((X.c+1).tmod 4))=some g3)∨((¬JO g.d 17=15∧¬JO g.d 17=16)∧g3=h2))∧Ze h.size h g3∧g3.size=h2.size∧g3[h1.size+1]? = some (.cells [.int .i64 (aO g),.int .i64 (aP g),.int .i64 60].toArray 75)∧g3[h1.size]? = some (.cells X.C.toArray 47)∧g3[h.size]? = some (.cells [.int .i64 g.k,.int .i64 g.a,.int .i64 g.b,.int .i64 g.c,.int .i64 g.d].toArray 81):=by
  by_cases jC:JO g.d 17=15
  ·obtain⟨g3,Fg,z⟩:=three X.c 0 (by unfold aO;rw[if_neg (by omega),hX]) (by unfold aP;rw[if_pos jC])
   exact⟨g3,.inl ⟨jC,by rw[Yq t2 1 _,Fg];rfl⟩,z⟩
  by_cases yi:JO g.d 17=16
  ·obtain⟨g3,Fg,z⟩:=three ((X.c+1).tmod 4) 7 (by unfold aO;rw[if_pos yi,hX]) (by unfold aP;rw[if_neg jC])
   exact⟨g3,.inr (.inl ⟨yi,by rw[Yq t2 0 _,Fg];rfl⟩),z⟩
  ·obtain⟨g3,Fg,z⟩:=three X.c 7 (by unfold aO;rw[if_neg yi,hX]) (by unfold aP;rw[if_neg jC])
   exact⟨g3,.inr (.inr ⟨⟨jC,yi⟩,by rw[Fg];exact VA t2⟩),z⟩
 obtain⟨g3,Kz,B3,s3,t3,x3,y3⟩:=h3c
 have ra:hc g3 ⟨h.size,1,none⟩=some (.int .i64 g.a):=Zg y3
 have rt:rd g3 ⟨h1.size+1,0,none⟩ 3=some [.int .i64 (aO g),.int .i64 (aP g),.int .i64 60]:=Zo t3 rfl
 have rx:rd g3 ⟨h1.size,0,none⟩ 5=some [.int .i64 X.k,.int .i64 X.c,.int .i64 X.s,.int .i64 X.n,.int .i64 X.v]:=Zo x3 rfl
 have ly:=Za y3
 have lt:=Za t3
 have lx:=Za x3
 have pk:=um T g3 (JO g.a 1000) (aO g) (aP g) 60 X.k X.c X.s X.n X.v (tk.Js B3)
 unfold VY Qi at pk
 clear three b2 t2 x2 yg2 b1 y1 b0 y0
 rcases Kz with⟨jC,w3⟩|⟨yi,w3⟩|⟨⟨jC,yi⟩,e23⟩
 case' inl=>simp -implicitDefEqProofs only[go_sem,↓reduceIte,jC,w3]
 case' inr.inl=>have jC:¬(16:Int)=15:=by decide
 case' inr.inl=>simp -implicitDefEqProofs only[go_sem,↓reduceIte,yi,rc2,w3]
 case' inr.inr=>subst e23
 case' inr.inr=>simp -implicitDefEqProofs only[go_sem,↓reduceIte,jC,yi]
 all_goals
  refine VS.w (g3.size) [] (.q 0 (.q 1 (.q 2 (.q 3 (.q 4 (.s 5 (.q 6 (.q 7 (.q 8 (.q 9 (.q 10 .nil))))))))))) mixed (by kernel_rfl) ?_
  simp -implicitDefEqProofs only[go_sem,↓reduceIte,ra,rt,rx,ly,lt,lx]
  refine JH (fun h=>XI T h g.a 1000 wa (by omega) (by omega)) ?_
  simp -implicitDefEqProofs only[go_sem,↓reduceIte,rt,rx,lt,lx]
  refine pk.use ?_
  rintro _ h4 ⟨⟨w,rfl,o4⟩,b4⟩
  have B4:=B3.trans (b4.mono B3.size)
  have eF:(if WZ (JO g.a 1000) (aO g) (aP g) 60 X.k X.c X.s X.n X.v=0 then Dy (JO g.a 1000) (aO g) (aP g) 60 X.k X.c X.s X.n X.v else [])=QM g:=by unfold QM vK;rw[←hX]
  rw[eF]at o4
  have o4:=o4.mono B3.size
  obtain⟨p4,c4,rfl,_⟩:=o4.open
  have yd:hc h4 ⟨h.size,4,none⟩=some (.int .i64 g.d):=Zg (b4.get ly y3)
  simp -implicitDefEqProofs only[go_sem,↓reduceIte,yd,b4]
  refine (XI T h4 g.d 23 wd (by omega) (by omega)).pure ?_
  by_cases q22:JO g.d 23=22
  ·by_cases q30:30<(QM g).length
   ·have Zbg:((QM g).length:Int)>30:=by omega
    have eD:Jq g=(QM g).take 30:=by unfold Jq;rw[if_pos ⟨q22,q30⟩]
    simp -implicitDefEqProofs only[go_sem,↓reduceIte,q22,Zbg]
    have hf:=o4.own.TN (m:=30) (by omega)
    rw[eD]
    refine⟨⟨?_,fun x hx=>o4.byte x (List.mem_of_mem_take hx)⟩,B4⟩
    rw[List.length_take,Nat.min_eq_left (by omega),List.map_take]
    exact hf
   ·have Zbg:¬((QM g).length:Int)>30:=by omega
    have eD:Jq g=QM g:=by unfold Jq;rw[if_neg (fun h=>q30 h.2)]
    simp -implicitDefEqProofs only[go_sem,↓reduceIte,q22,Zbg]
    rw[eD]
    exact⟨o4,B4⟩
  ·have eD:Jq g=QM g:=by unfold Jq;rw[if_neg (fun h=>q22 h.1)]
   simp -implicitDefEqProofs only[go_sem,↓reduceIte,q22]
   rw[eD]
   exact⟨o4,B4⟩
def Ur (g:Gr) (cr:Bool):Raw:=
 if JO g.k 24<3 then ⟨1,JO g.a 5,0,0,Jq g⟩ else if JO g.k 24<5 then ⟨2,JO g.a 5,0,0,[]⟩ else if JO g.k 24<14 then ⟨3,JO g.a 5,0,0,[]⟩
 else if JO g.k 24=14 then ⟨4,0,JO g.c 20,0,[]⟩ else if JO g.k 24=15 then ⟨5,0,JO g.c 20,0,[]⟩ else if JO g.k 24=16 then ⟨6,0,JO g.c 20,0,[]⟩
 else if JO g.k 24=17∧cr=true then ⟨8,JO g.a 5,0,JO g.c 90,[]⟩ else if JO g.k 24=18∧cr=true then ⟨9,JO g.a 5,0,0,[]⟩ else ⟨7,0,0,0,[]⟩
theorem iN (T:World) (h:Hp) (g:Gr) (cr:Bool) (hg:g.ok) (tk:Tk h) :
  Zd Tryz.prog T 29 #[.agg g.C.toArray,.bool cr] h fun v' h'=>(∃w,v'=.agg (Qk (Ur g cr,w)).toArray∧Z1 h.size 5 h' w (Ur g cr).data)∧Ze h.size h h':=by
 have pkc:=fun h tk=>Fs T h g hg tk
 obtain⟨⟨wk,wa⟩,wb,wc,wd⟩:=hg
 refine Zd.Zi (args:=[_,_]) Tryz.func29 rfl rfl rfl rfl ?_
 unfold Gr.C at *
 obtain⟨h0,XR⟩:=Zu ((h.push (.cells [.int .i64 g.k,.int .i64 g.a,.int .i64 g.b,.int .i64 g.c,.int .i64 g.d].toArray 81)).push (.cells (Vj 0 0 0 0 (.slice none 0 0)).toArray 36):Hp)
 have e0:=XR.symm
 have y0:h0[h.size]? = some (.cells [.int .i64 g.k,.int .i64 g.a,.int .i64 g.b,.int .i64 g.c,.int .i64 g.d].toArray 81):=by rw[XR,Zq (by simp),Zb]
 have z0:h0[h.size+1]? = some (.cells (Vj 0 0 0 0 (.slice none 0 0)).toArray 36):=by rw[XR,Array.getElem?_push,if_pos (by simp)]
 have b0:Ze h.size h h0:=by rw[XR];exact ((Ze.refl _ _).add _).add _
 have u0:hc h0 ⟨h.size,0,none⟩=some (.int .i64 g.k):=Zg y0
 have u1:hc h0 ⟨h.size,1,none⟩=some (.int .i64 g.a):=Zg y0
 have u3:hc h0 ⟨h.size,3,none⟩=some (.int .i64 g.c):=Zg y0
 have ry:rd h0 ⟨h.size,0,none⟩ 5=some [.int .i64 g.k,.int .i64 g.a,.int .i64 g.b,.int .i64 g.c,.int .i64 g.d]:=Zo y0 rfl
 have ly:=Za y0
 have lz:=Za z0
 have rk:=Qh g.k (m:=24) (by omega)
 unfold Vj at e0
 simp -implicitDefEqProofs only[go_sem,↓reduceIte,e0,u1,u0]
 refine (XI T h0 g.a 5 wa (by omega) (by omega)).pure ?_
 simp -implicitDefEqProofs only[go_sem,↓reduceIte,u0]
 refine (XI T h0 g.k 24 wk (by omega) (by omega)).pure ?_
 obtain⟨A,hA⟩:=Zu (JO g.a 5)
 rw[←hA]
 have fin:∀(g4:Hp) (k n a b:Int) (p:Option Addr) (m c:Nat) (l:List Nat),g4[h.size+1]? = some (.cells (Vj 0 0 0 0 (.slice none 0 0)).toArray 36)→Ze h.size h g4→Z1 (h.size+2) 5 g4 (.slice p m c) l→Ur g cr=⟨k,n,a,b,l⟩ →
   wr g4 ⟨h.size+1,0,none⟩ [.int .i64 k,.int .i64 n,.int .i64 a,.int .i64 b,.slice p m c]=some (g4.setIfInBounds (h.size+1) (.cells (Vj k n a b (.slice p m c)).toArray 36)) ∧
   rd (g4.setIfInBounds (h.size+1) (.cells (Vj k n a b (.slice p m c)).toArray 36)) ⟨h.size+1,0,none⟩ 5=some [.int .i64 k,.int .i64 n,.int .i64 a,.int .i64 b,.slice p m c] ∧
   ((∃w,Value.agg [.int .i64 k,.int .i64 n,.int .i64 a,.int .i64 b,.slice p m c].toArray=.agg (Qk (Ur g cr,w)).toArray∧Z1 h.size 5 (g4.setIfInBounds (h.size+1) (.cells (Vj k n a b (.slice p m c)).toArray 36)) w (Ur g cr).data)∧Ze h.size h (g4.setIfInBounds (h.size+1) (.cells (Vj k n a b (.slice p m c)).toArray 36))):=fun g4 k n a b p m c l y4 b4 o4 e=>by
  refine⟨by rw[ZP y4 0 _];rfl,Zo (Zw y4) rfl,⟨.slice p m c,by rw[e];rfl,?_⟩,b4.Zk (by omega) _⟩
  rw[e]
  exact (o4.ZQ (by omega) _).mono (by omega)
 have nil:=fun B=>Z1.nil B 5 h0
 have c0:JO g.k 24<3∨(¬JO g.k 24<3∧JO g.k 24<5)∨(¬JO g.k 24<5∧JO g.k 24<14)∨JO g.k 24=14∨JO g.k 24=15∨JO g.k 24=16∨JO g.k 24=17∨JO g.k 24=18∨18<JO g.k 24:=by omega
 obtain⟨K,hK⟩:=Zu (JO g.k 24)
 rw[←hK]at c0 rk ⊢
 rcases c0 with c|⟨c,c'⟩|⟨c,c'⟩|c|c|c|c|c|c
 ·simp -implicitDefEqProofs only[go_sem,↓reduceIte,c,ry,ly]
  refine (pkc h0 (tk.Js b0)).use ?_
  rintro w g4 ⟨o4,b4⟩
  obtain⟨p,cp,rfl,_⟩:=o4.open
  have s0:h0.size=h.size+2:=by rw[XR];simp
  obtain⟨f1,f2,f3⟩:=fin g4 1 A 0 0 p _ cp (Jq g) (b4.get lz z0) (b0.trans (b4.mono b0.size)) (o4.mono (by omega)) (by unfold Ur;rw[←hK,if_pos c,←hA])
  have l4:=Za (b4.get lz z0)
  simp -implicitDefEqProofs only[go_sem,↓reduceIte,f1,f2,l4]
  exact f3
 ·obtain⟨f1,f2,f3⟩:=fin h0 2 A 0 0 none 0 0 [] z0 b0 (nil _) (by unfold Ur;rw[←hK];rw[if_neg c,if_pos c',←hA])
  simp -implicitDefEqProofs only[go_sem,↓reduceIte,c,c',f1,f2,lz]
  exact f3
 ·obtain⟨f1,f2,f3⟩:=fin h0 3 A 0 0 none 0 0 [] z0 b0 (nil _) (by unfold Ur;rw[←hK];rw[if_neg (by omega),if_neg c,if_pos c',←hA])
  have c2:¬K<3:=by omega
  simp -implicitDefEqProofs only[go_sem,↓reduceIte,c,c',c2,f1,f2,lz]
  exact f3
 ·obtain⟨f1,f2,f3⟩:=fin h0 4 0 (JO g.c 20) 0 none 0 0 [] z0 b0 (nil _) (by unfold Ur;rw[←hK];rw[c];rfl)
  have t14:¬(14:Int)<3:=by decide
  simp -implicitDefEqProofs only[go_sem,↓reduceIte,c,u3]
  refine (XI T h0 g.c 20 wc (by omega) (by omega)).pure ?_
  simp -implicitDefEqProofs only[go_sem,↓reduceIte,f1,f2,lz]
  exact f3
 ·obtain⟨f1,f2,f3⟩:=fin h0 5 0 (JO g.c 20) 0 none 0 0 [] z0 b0 (nil _) (by unfold Ur;rw[←hK];rw[c];rfl)
  have t15:¬(15:Int)<3:=by decide
  simp -implicitDefEqProofs only[go_sem,↓reduceIte,c,u3]
  refine (XI T h0 g.c 20 wc (by omega) (by omega)).pure ?_
  simp -implicitDefEqProofs only[go_sem,↓reduceIte,f1,f2,lz]
  exact f3
 ·obtain⟨f1,f2,f3⟩:=fin h0 6 0 (JO g.c 20) 0 none 0 0 [] z0 b0 (nil _) (by unfold Ur;rw[←hK];rw[c];rfl)
  have t16:¬(16:Int)<3:=by decide
  simp -implicitDefEqProofs only[go_sem,↓reduceIte,c,u3]
  refine (XI T h0 g.c 20 wc (by omega) (by omega)).pure ?_
  simp -implicitDefEqProofs only[go_sem,↓reduceIte,f1,f2,lz]
  exact f3
 ·cases cr with
  | true=>
   obtain⟨f1,f2,f3⟩:=fin h0 8 A 0 (JO g.c 90) none 0 0 [] z0 b0 (nil _) (by unfold Ur;rw[←hK,c,←hA];rfl)
   simp -implicitDefEqProofs only[go_sem,↓reduceIte,c,u3]
   refine (XI T h0 g.c 90 wc (by omega) (by omega)).pure ?_
   simp -implicitDefEqProofs only[go_sem,↓reduceIte,f1,f2,lz]
   exact f3
  | false=>
   obtain⟨f1,f2,f3⟩:=fin h0 7 0 0 0 none 0 0 [] z0 b0 (nil _) (by unfold Ur;rw[←hK,c];rfl)
   simp -implicitDefEqProofs only[go_sem,↓reduceIte,c,f1,f2,lz]
   exact f3
 ·cases cr with
  | true=>
   obtain⟨f1,f2,f3⟩:=fin h0 9 A 0 0 none 0 0 [] z0 b0 (nil _) (by unfold Ur;rw[←hK,c,←hA];rfl)
   simp -implicitDefEqProofs only[go_sem,↓reduceIte,c,f1,f2,lz]
   exact f3
  | false=>
   obtain⟨f1,f2,f3⟩:=fin h0 7 0 0 0 none 0 0 [] z0 b0 (nil _) (by unfold Ur;rw[←hK,c];rfl)
   simp -implicitDefEqProofs only[go_sem,↓reduceIte,c,f1,f2,lz]
   exact f3
 ·obtain⟨f1,f2,f3⟩:=fin h0 7 0 0 0 none 0 0 [] z0 b0 (nil _) (by unfold Ur;rw[←hK,if_neg (by omega),if_neg (by omega),if_neg (by omega),if_neg (by omega),if_neg (by omega),if_neg (by omega),if_neg (by omega),if_neg (by omega)])
  have c3:¬K<3:=by omega
  have c5:¬K<5:=by omega
  have c14:¬K<14:=by omega
  have d14:¬K=14:=by omega
  have d15:¬K=15:=by omega
  have d16:¬K=16:=by omega
  have d17:¬K=17:=by omega
  have d18:¬K=18:=by omega
  simp -implicitDefEqProofs only[go_sem,↓reduceIte,c3,c5,c14,d14,d15,d16,d17,d18,f1,f2,lz]
  exact f3
def Zgd:Raw:=⟨7,0,0,0,[]⟩
def To (n:Nat) (a:Raw):Raw:=if a.k=1∧6<n+1 then Zgd else a
def Q0 (cr:Bool) (st:Nat × List Raw) (g:Gr):Nat × List Raw:=(if (Ur g cr).k=1 then st.1+1 else st.1,st.2++[To st.1 (Ur g cr)])
def So (gs:List Gr) (cr:Bool) (j:Nat):Nat × List Raw:=(gs.take j).foldl (Q0 cr) (0,[])
def jG (gs:List Gr) (Xb:Nat) (cr:Bool):List Raw:=(So gs cr Xb).2
theorem HU (gs:List Gr) (cr:Bool) (j:Nat) (hj:j<gs.length):So gs cr (j+1)=Q0 cr (So gs cr j) gs[j]:=by
 unfold So
 rw[Z9 gs j hj,List.foldl_append]
 rfl
theorem Ol (gs:List Gr) (cr:Bool):∀j,j≤gs.length→(So gs cr j).2.length=j∧(So gs cr j).1≤j:=by
 intro j
 induction j with
 | zero=>intro _;exact⟨rfl,Nat.le_refl _⟩
 | succ j ih=>
  intro h
  obtain⟨h1,h2⟩:=ih (by omega)
  rw[HU gs cr j (by omega)]
  unfold Q0
  simp only[List.length_append,List.length_singleton]
  refine⟨by omega,?_⟩
  split<;>omega
theorem Cj (gs:List Gr) (cr:Bool) (j:Nat) (h:gs.length≤j):So gs cr j=So gs cr gs.length:=by
 unfold So
 rw[List.take_of_length_le h,List.take_of_length_le (Nat.le_refl _)]
theorem iO {B:Nat} {h:Hp} {v:Value} {l:List Nat} {o:Ow} (s:Z1 B 5 h v l) (hf:∀b,B≤b→o b=none):Ti o h v l:=⟨Im.Qy s.own hf,s.byte⟩
set_option maxHeartbeats 4000000 in
theorem aQ (T:World) (h:Hp) (v:Value) (gs:List Gr) (Xb:Nat) (cr:Bool) (hv:Ts Gr.C 5 h v gs) (hg:∀g∈gs,g.ok) (hm:Xb≤1000000) (tk:Tk h) :
  Zd Tryz.prog T 16 #[v,.int .i64 Xb,.bool cr] h fun v' h'=>Ze h.size h h'∧WO v'∧∃ys,YU ys=jG gs Xb cr∧Ts Qk 5 h' v' ys∧(∀y∈ys,Ti Wl h' y.2 y.1.data)∧(∀y∈ys,∀b,ZM y.2=some b→h.size≤b)∧∀b,ZM v'=some b→h.size≤b∧b<h'.size:=by
 obtain⟨p,c,rfl,Yx⟩:=hv.open (n:=5) (enc:=Gr.C) (fun _=>rfl) (by decide)
 refine Zd.Zi (args:=[_,_,_]) Tryz.func16 rfl rfl rfl rfl ?_
 simp -implicitDefEqProofs only[go_sem,↓reduceIte]
 refine VS.ZU (fun F g=>(F 0=.slice p gs.length c∧F 1=.int .i64 Xb∧F 2=.bool cr)∧∃(j:Nat) (o:Ow) (ys:List (Raw × Value)),j≤gs.length∧j≤Xb∧F 9=.int .i64 j∧F 8=.int .i64 ((So gs cr j).1:Nat)∧Kp (fun t=>t=.log 100) Wl h o g∧YU ys=(So gs cr j).2∧Ys o (.log 100) 36 5 g (F 7) ys.length (Zz Qk ys)∧(∀y∈ys,Ti o g y.2 y.1.data)∧∀y∈ys,∀b,ZM y.2=some b→h.size≤b)
  (fun F _=>gs.length-(vi (F 9)).toNat) rfl ⟨⟨rfl,rfl,rfl⟩,0,Wl,[],Nat.zero_le _,Nat.zero_le _,rfl,rfl,Kp.refl (JQ h) _,rfl,Ys.nil _ _ _ _ _,(fun y hy=>by cases hy),fun y hy=>by cases hy⟩ ?_
 rintro F2 g2 ⟨⟨f0,f1,f2⟩,j,o2,ys,hj,hjm,f9,f8,K2,hr,O2,I2,N2⟩
 have yl:ys.length=j:=by
  have:=congrArg List.length hr
  unfold YU at this
  rw[List.length_map,(Ol gs cr j hj).1]at this
  exact this
 obtain⟨p3,c3,f3,hc3⟩:=O2.isSlice
 by_cases ZA:j<gs.length∧j<Xb
 ·obtain⟨ZA,Zpq⟩:=ZA
  have ZH:(j:Int)<gs.length:=by omega
  have Zge:(j:Int)<Xb:=by omega
  obtain⟨bb,oo,rfl,Ut,RO⟩:=Yx (by intro e;rw[e]at ZA;simp at ZA)
  obtain⟨g,xI⟩:=Zu (gs[j])
  have hgm:g∈gs:=by rw[xI];exact List.getElem_mem ZA
  have r1:rd g2 ⟨bb,oo+j*5,none⟩ 5=some g.C:=by rw[XB (Uq K2) Ut,xI];exact (RO j ZA).rd (by simp[Gr.C]) rfl
  have ca:=iN T g2 g cr (hg g hgm) (tk.Js (Uq K2))
  unfold Gr.C at ca r1
  simp -implicitDefEqProofs only[go_sem,↓reduceIte,f0,f1,f2,f9,ZH,Zge,r1]
  refine ca.use ?_
  rintro vv g3 ⟨⟨w,hvv,o3⟩,b3⟩
  obtain⟨a,ha⟩:=Zu (Ur g cr)
  rw[←ha]at o3 hvv
  obtain⟨p4,c4,rfl,_⟩:=o3.open
  have hvv:vv=.agg #[.int .i64 a.k,.int .i64 a.n,.int .i64 a.a,.int .i64 a.b,.slice p4 a.data.length c4]:=by rw[hvv];rfl
  subst hvv
  obtain⟨n,hn⟩:=Zu ((So gs cr j).1)
  rw[←hn]at f8
  have hnj:n≤j:=by rw[hn];exact (Ol gs cr j hj).2
  obtain⟨g4,VO⟩:=Zu (g3.push (.cells (Vj a.k a.n a.a a.b (.slice p4 a.data.length c4)).toArray 36):Hp)
  have e4:=VO.symm
  have y4:g4[g3.size]? = some (.cells (Vj a.k a.n a.a a.b (.slice p4 a.data.length c4)).toArray 36):=by rw[VO];exact Zb
  have K3:Kp JK o2 g2 o2 g3:=Zs K2.ZV b3
  have k4:Kp JK o2 g3 o2 g4:=by rw[VO];exact ZW K3.ZV _
  have K4:=K3.trans k4
  have i3:Ti o2 g3 (.slice p4 a.data.length c4) a.data:=iO o3 (fun b hb=>K2.ZV b hb)
  have i4:=i3.Zc k4
  have rk:hc g4 ⟨g3.size,0,none⟩=some (.int .i64 a.k):=Zg y4
  have l4:=Za y4
  have hs3:=b3.size
  have h5c:∃(g5:Hp) (q:Option Addr) (cq:Nat),((¬a.k=1∧g5=g4)∨((a.k=1∧¬(n:Int)+1>6)∧g5=g4)∨((a.k=1∧(n:Int)+1>6)∧wr g4 ⟨g3.size,0,none⟩ [.int .i64 7,.int .i64 0,.int .i64 0,.int .i64 0,.slice none 0 0]=some g5)) ∧
    g5[g3.size]? = some (.cells (Vj (To n a).k (To n a).n (To n a).a (To n a).b (.slice q (To n a).data.length cq)).toArray 36)∧Kp JK o2 g2 o2 g5∧Ti o2 g5 (.slice q (To n a).data.length cq) (To n a).data∧g3.size<g5.size∧∀b,ZM (.slice q (To n a).data.length cq)=some b→h.size≤b:=by
   have Zgf:∀b,ZM (.slice p4 a.data.length c4)=some b→h.size≤b:=fun b hb=>Nat.le_trans K2.size (o3.own.ZD b hb)
   by_cases q1:a.k=1
   ·by_cases q6:6<n+1
    ·have eX:To n a=Zgd:=by unfold To;rw[if_pos ⟨q1,q6⟩]
     rw[eX]
     refine⟨_,none,0,.inr (.inr ⟨⟨q1,by omega⟩,by rw[ZP y4 0 _];rfl⟩),Zw y4,K4.BO (by omega) _,⟨Im.nil _ 1 _ none,fun x hx=>by cases hx⟩,by simpa using l4,fun b hb=>by simp[ZM]at hb⟩
    ·have eX:To n a=a:=by unfold To;rw[if_neg (fun h=>q6 h.2)]
     rw[eX]
     exact⟨g4,p4,c4,.inr (.inl ⟨⟨q1,by omega⟩,rfl⟩),y4,K4,i4,l4,Zgf⟩
   ·have eX:To n a=a:=by unfold To;rw[if_neg (fun h=>q1 h.1)]
    rw[eX]
    exact⟨g4,p4,c4,.inl ⟨q1,rfl⟩,y4,K4,i4,l4,Zgf⟩
  obtain⟨g5,q,cq,Kz,y5,K5,i5,l5,n5⟩:=h5c
  obtain⟨X,hX⟩:=Zu (To n a)
  rw[←hX]at y5 i5 n5
  have eN:So gs cr (j+1)=(if a.k=1 then n+1 else n,(So gs cr j).2++[X]):=by rw[HU gs cr j ZA,←xI];unfold Q0;rw[←ha,←hn,hX]
  have r5:rd g5 ⟨g3.size,0,none⟩ 5=some (Vj X.k X.n X.a X.b (.slice q X.data.length cq)):=Zo y5 rfl
  obtain⟨g6,TF⟩:=Zu (g5.push (.cells (Vj X.k X.n X.a X.b (.slice q X.data.length cq)).toArray 36):Hp)
  have e6:=TF.symm
  have k6:Kp JK o2 g5 o2 g6:=by rw[TF];exact ZW K5.ZV _
  have x6:g6[g5.size]? = some (.cells (Vj X.k X.n X.a X.b (.slice q X.data.length cq)).toArray 36):=by rw[TF];exact Zb
  have src:Sl 5 g6 (.slice (some ⟨g5.size,0,none⟩) 1 1) 1 (Vj X.k X.n X.a X.b (.slice q X.data.length cq)):=⟨_,1,rfl,rfl,fun _=>⟨g5.size,0,rfl,fun i hi=>by
   rw[Zg x6,Yj,Nat.zero_add];exact List.getElem?_eq_getElem hi⟩⟩
  have O6:=(O2.Zc K5 (fun q=>q)).Zc k6 (fun q=>q)
  rw[f3]at O6
  have stp:∀v7 o7 (g7:Hp),Ys o7 (.log 100) 36 5 g7 v7 (ys.length+1) (Zz Qk ys++Vj X.k X.n X.a X.b (.slice q X.data.length cq))→Kp (fun u=>u=.log 100) o2 g6 o7 g7 →
    Kp (fun t=>t=.log 100) Wl h o7 g7∧YU (ys++[(X,.slice q X.data.length cq)])=(So gs cr (j+1)).2∧Ys o7 (.log 100) 36 5 g7 v7 (ys++[(X,Value.slice q X.data.length cq)]).length (Zz Qk (ys++[(X,.slice q X.data.length cq)]))∧(∀y∈ys++[(X,Value.slice q X.data.length cq)],Ti o7 g7 y.2 y.1.data)∧∀y∈ys++[(X,Value.slice q X.data.length cq)],∀b,ZM y.2=some b→h.size≤b:=fun v7 o7 g7 O7 k7=>by
   refine⟨((K2.trans (ZC K5)).trans (ZC k6)).trans k7,?_,?_,fun y hy=>?_,fun y hy=>?_⟩
   ·rw[eN,←hr]
    unfold YU
    simp only[List.map_append,List.map_cons,List.map_nil]
   ·have e:Zz Qk (ys++[(X,.slice q X.data.length cq)])=Zz Qk ys++Vj X.k X.n X.a X.b (.slice q X.data.length cq):=by rw[Ye,JV];rfl
    rw[e,List.length_append]
    exact O7
   ·rcases List.mem_append.1 hy with hy|hy
    ·exact (((I2 y hy).Zc K5).Zc k6).Zc k7
    ·rw[List.mem_singleton.1 hy]
     exact (i5.Zc k6).Zc k7
   ·rcases List.mem_append.1 hy with hy|hy
    ·exact N2 y hy
    ·rw[List.mem_singleton.1 hy];exact n5
  unfold Vj at e4 r5 e6
  rcases Kz with⟨q1,e54⟩|⟨⟨q1,q6⟩,e54⟩|⟨⟨q1,q6⟩,w5⟩
  case' inl=>subst e54
  case' inl=>simp -implicitDefEqProofs only[go_sem,↓reduceIte,e4,rk,q1,r5,l5,e6,f3]
  case' inr.inl=>subst e54
  case' inr.inl=>have q1t:=eq_true q1
  case' inr.inl=>simp -implicitDefEqProofs only[go_sem,↓reduceIte,e4,rk,q1t,f8,q6,r5,l5,e6,f3]
  case' inr.inr=>have q1t:=eq_true q1
  case' inr.inr=>simp -implicitDefEqProofs only[go_sem,↓reduceIte,e4,rk,q1t,f8,q6,w5,l4,r5,l5,e6,f3]
  all_goals
   refine XW (E:=36) (n:=5) (bytes:=56) (k:=1) xd Tryz.underlying23 ZdA ZdC rfl ZdB O6 k6.ZV src rfl (by omega) (by omega) ?_
   intro v7 o7 g7 O7 k7 _
   have k7:Kp (fun u=>u=.log 100) o2 g6 o7 g7:=k7
   obtain⟨z1,z2,z3,z4,z5⟩:=stp v7 o7 g7 O7 k7
   simp -implicitDefEqProofs only[go_sem,↓reduceIte,f9]
   unfold Yy
   refine⟨⟨⟨f0,f1,f2⟩,j+1,o7,ys++[(X,Value.slice q X.data.length cq)],ZA,Zpq,rfl,?_,z1,z2,?_,z4,z5⟩,?_⟩
   ·rw[eN]
    first
    | (rw[if_pos q1];rfl)
    | (rw[if_neg q1];exact f8)
   ·exact z3
   ·simp only[vi,Zh,↓reduceIte,f9];omega
 have e9:jG gs Xb cr=(So gs cr j).2:=by
  unfold jG
  by_cases q:j<gs.length
  ·rw[show Xb=j by omega]
  ·rw[show j=gs.length by omega,Cj gs cr Xb (by omega)]
 have fin:∀b,ZM (F2 7)=some b→h.size≤b∧b<g2.size:=fun b hb=>by
  have ho:=pC O2 hb
  refine⟨Ch K2 ho,?_⟩
  refine Classical.byContradiction fun q=>?_
  rw[K2.ZV b (by omega)]at ho;cases ho
 by_cases RD:j<gs.length
 ·have ZH:(j:Int)<gs.length:=by omega
  have YE:¬(j:Int)<Xb:=by omega
  simp -implicitDefEqProofs only[go_sem,↓reduceIte,f0,f1,f9,ZH,YE]
  exact⟨Uq K2,by rw[f3];exact hc3,ys,by rw[hr,e9],⟨O2.sl⟩,(fun y hy=>⟨⟨(I2 y hy).1.sl,(I2 y hy).1.fits,fun b hb=>⟨((I2 y hy).1.free b hb).1,rfl⟩⟩,(I2 y hy).2⟩),N2,fin⟩
 ·have ZH:¬(j:Int)<gs.length:=by omega
  simp -implicitDefEqProofs only[go_sem,↓reduceIte,f0,f1,f9,ZH]
  exact⟨Uq K2,by rw[f3];exact hc3,ys,by rw[hr,e9],⟨O2.sl⟩,(fun y hy=>⟨⟨(I2 y hy).1.sl,(I2 y hy).1.fits,fun b hb=>⟨((I2 y hy).1.free b hb).1,rfl⟩⟩,(I2 y hy).2⟩),N2,fin⟩
theorem OZ (T:World) (h:Hp) (v:Value) (gs:List Gr) (Xb:Nat) (cr:Bool) (hv:Ts Gr.C 5 h v gs) (hg:∀g∈gs,g.ok) (hm:Xb≤1000000) (tk:Tk h) :
  Zd Tryz.prog T 16 #[v,.int .i64 Xb,.bool cr] h fun v' h'=>Ze h.size h h'∧WO v'∧∃ys,YU ys=jG gs Xb cr∧Ts Qk 5 h' v' ys∧∀y∈ys,Ti Wl h' y.2 y.1.data:=
 (aQ T h v gs Xb cr hv hg hm tk).mono fun _ _ ⟨q1,q2,ys,q3,q4,q5,_,_⟩=>⟨q1,q2,ys,q3,q4,q5⟩
end Go.Proofs.YtkfhncfkagcamaaGreatDoor

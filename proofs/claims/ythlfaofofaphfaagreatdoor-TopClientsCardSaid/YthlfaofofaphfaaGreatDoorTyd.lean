/- Part Tyd. -/
import Derived.Test.YthlfaofofaphfaaGreatDoorTxb
import Derived.Test.YthlfaofofaphfaaGreatDoorMop
open Go.Value renaming int→am,slice→aw
open Go.IntKind renaming i64→aa
open Go.Obj renaming cells→a8
open Go.Proofs.Tryz renaming prog→bc,underlying27→bx
open List renaming length→U,mem_append→al,length_append→au,mem_singleton→aI,mem_map→aU,append_assoc→a2,mem_filter→a3,getElem?_eq_getElem→a4,length_map→a5,foldl_cons→a6,mem_flatMap→a7,mem_cons→ba,map_append→bb,nil_append→be,append_nil→bf,mem_range→bg,getD_eq_getElem?_getD→bh,getElem?_map→bk,mem_flatten→bl,length_singleton→bn,mem_of_mem_take→bo,getElem?_range→bp,range→br,foldl_append→bw,getElem_mem→bz,cons_append→bA,filter_cons→bB,range'→bC,range_succ→bG
open Nat renaming le_refl→bd
open Int renaming toNat_natCast→a0
open Option renaming some→Y,none→Z
open Classical renaming byContradiction→a9
open Go renaming Value→a1
namespace Go.Proofs.YthlfaofofaphfaaGreatDoor
open Go Go.V
set_option linter.unusedSimpArgs false
set_option linter.unusedVariables false
variable{C:List Cm}{l:List Raw}{n:Nd}{r:Xw}
theorem mL{β:Type}:∀{l:List (Int × β)} {k:Int},k∈l.map (·.1)->∃v,Yh l k=Y v:=by
 intro l k h
 cases e:Yh l k with
 | some v=>exact⟨v,rfl⟩
 | none=>
  obtain⟨x,hx,rfl⟩:=aU.1 h;exact (vW e x hx rfl).elim
theorem mM{β:Type}{l:List (Int × β)}{k:Int}{v:β}(h:Yh l k=Y v):k∈l.map (·.1):=aU.2 ⟨(k,v),Rx h,rfl⟩
theorem Sz.maj{β:Type}{l:List (Int × β)}(h:Sz 5 l)(hm:5<2*(U l)):Maj (l.map fun x=>x.1.toNat):=by
 refine⟨?_,fun i hi=>?_,by rw[a5];omega⟩
 .have:(l.map fun x=>x.1.toNat)=(l.map (·.1)).map Int.toNat:=by rw[List.map_map];rfl
  rw[this];refine List.pairwise_map.2 ?_;have h2:=h.2;have h1:=h.1;rw[List.nodup_iff_pairwise_ne]at h1;refine List.Pairwise.imp_of_mem ?_ h1;intro a b ha hb Y4 he;have:=h2 a ha;have:=h2 b hb;omega
 .obtain⟨x,hx,rfl⟩:=aU.1 hi;have:=h.2 x.1 (aU.2 ⟨x,hx,rfl⟩);omega
theorem Sz.back{β:Type}{l:List (Int × β)}(h:Sz 5 l){i:Nat}(hi:i∈l.map fun x=>x.1.toNat):∃v,Yh l (i:Int)=Y v:=by
 obtain⟨x,hx,rfl⟩:=aU.1 hi;have:=h.2 x.1 (aU.2 ⟨x,hx,rfl⟩);have e:((x.1.toNat:Nat):Int)=x.1:=nc;rw[e];exact mL (aU.2 ⟨x,hx,rfl⟩)
structure AR(g:Gh)(i:Nat)(a:UC):Prop where
 has:∀v∈a.l,g.V i v.b v.Zu v.cm
 all:∀b s x,g.V i b s x->∃v∈a.l,v.Zu=s/\¬ZL v.b b
theorem AR.pf{S:Cm->Prop}{g:Gh}{M:Nat->Yw}{i:Nat}{a:UC}(G:GI S g M)(h:AR g i a)(hi:i<5)(hm:M i=a.p):PF g M i a.p a.l:=
 ⟨hi,by rw[hm];exact Qu _,fun v hv=>⟨h.has v hv,by rw[<-hm];exact G.Z4 _ _ _ _ (h.has v hv)⟩,fun b' s x _ hv=>h.all b' s x hv⟩
structure RR(g:Gh)(M:Nat->Yw)(i:Nat)(n:Nd)(r:Xw):Prop where
 ZV:r.b.n=i
 may:ZF r.b
 ZI:∀j vs,Yh r.ZI j=Y vs->PF g M j.toNat r.b vs
 pn:r.XM=false->∀s x,¬g.P r.b s x
 pr:∀s x,g.P r.b s x->Yh r.ZW s=Y x
 safe:∀s x,Yh r.ZW s=Y x->g.P r.b s x
 free:r.XM=true->∀s:Int,(n.ZB.length:Int)<=s->Yh r.ZW s=Z->Yh n.Zi s=Z->IM g M r.b s
 Y5:∀s K j,Yh r.Y5 s=Y K->Yh K j=Y ()->∃x,g.V j.toNat r.b s x
def PR(g:Gh)(n:Nd):LV->Prop
 | .VB a to b vs=>a=⟨b,n.Zq.l⟩/\vs=n.Zq.l/\YG n.Zq.p n.Zq.l b=0
 | .TC a to v=>a=⟨v.b,Jz n.Zq.l v⟩/\Xj n.Zq.p n.Zq.l v=0/\g.P v.b v.Zu v.cm
 | .Zq a vs cur=>∃b,a=⟨b,n.Zq.l⟩/\vs=n.Zq.l/\YG n.Zq.p n.Zq.l b=0/\(cur=true->∃r,n.Zh=Y r/\r.b=b)
structure LR(S:Cm->Prop)(g:Gh)(M:Nat->Yw)(l:YF):Prop where
 VB:l.Z7=1->PF g M l.Jq.toNat l.b l.vs
 ask:l.Z7=2->g.P l.v.b l.v.Zu l.v.cm
 TC:l.Z7=3->g.V l.Jq.toNat l.v.b l.v.Zu l.v.cm
 fwd:l.Z7=4->S l.v.cm
 cho:l.Z7=6->Jk g l.v.Zu l.v.cm
theorem LR.plain{S:Cm->Prop}{g:Gh}{M:Nat->Yw}{l:YF}(h:l.Z7=0\/l.Z7=5\/l.Z7=7):LR S g M l:=
 ⟨fun e=>by omega,fun e=>by omega,fun e=>by omega,fun e=>by omega,fun e=>by omega⟩
structure NR(S:Cm->Prop)(g:Gh)(M:Nat->Yw)(i:Nat)(n:Nd):Prop where
 acc:AR g i (Wh n)
 m:M i=(Wh n).p
 tape:TR n
 Zs:∀p,n.Zs=Y p->PR g n p
 Zi:∀s x,Yh n.Zi s=Y x->Jk g s x
 ZB:∀(k:Nat) x,n.ZB[k]? = Y x->Jk g (k:Int) x
 cV:∀x∈n.Zx,S x
 Zh:∀r,n.Zh=Y r->RR g M i n r
theorem JC(h:n.up=true):Wh n=n.Zq:=by unfold Wh;rw[if_pos h]
section
variable {i j:Nat} {g g':Gh} {M M':Nat->Yw} {S:Cm->Prop}
theorem LR.ext(E:Ext i g M g' M'){l:YF}(h:LR S g M l):LR S g' M' l:=
 ⟨fun e=>(h.VB e).ext E,fun e=>E.p _ _ _ (h.ask e),fun e=>E.v _ _ _ _ (h.TC e),h.fwd,fun e=>(h.cho e).ext E⟩
theorem NR.ext(E:Ext i g M g' M')(hj:j≠i)(h:NR S g M j n):NR S g' M' j n:=by
 have ho:=E.oth j hj;refine⟨⟨fun v hv=>E.v _ _ _ _ (h.acc.has v hv),fun b s x hv=>h.acc.all b s x (ho.2 _ _ _ hv)⟩,by rw[ho.1];exact h.m,h.tape,fun p hp=>?_,fun s x e=>(h.Zi s x e).ext E,fun k x e=>(h.ZB k x e).ext E,h.cV,fun r hr=>?_⟩
 .have:=h.Zs p hp
  cases p with
  | VB a to b vs=>exact this
  | TC a to v=>exact⟨this.1,this.2.1,E.p _ _ _ this.2.2⟩
  | Zq a vs cur=>exact this
 .have R:=h.Zh r hr;have hP:∀s x,g'.P r.b s x->g.P r.b s x:=fun s x e=>by
   rcases E.Zq _ _ _ e with e|e
   .exact e
   .rw[R.ZV]at e;omega
  exact⟨R.ZV,R.may,fun k vs e=>(R.ZI k vs e).ext E,fun e s x q=>R.pn e s x (hP s x q),fun s x q=>R.pr s x (hP s x q),fun s x q=>E.p _ _ _ (R.safe s x q),fun e s h1 h2 h3=>(R.free e s h1 h2 h3).ext E,fun s K k h1 h2=>by
   obtain⟨x,hx⟩:=R.Y5 s K k h1 h2;exact⟨x,E.v _ _ _ _ hx⟩⟩
end
structure HR(S:Cm->Prop)(g:Gh)(M:Nat->Yw)(i:Nat)(o:Out):Prop where
 n:NR S g M i o.n
 up:o.n.up=true
 ls:∀l∈o.ls,LR S g M l
section
variable {S:Cm->Prop} {g:Gh} {M:Nat->Yw} {i:Nat} {n:Nd}
theorem HR.same(N:NR S g M i n)(hu:n.up=true):HR S g M i ⟨n,[],[]⟩:=⟨N,hu,fun l hl=>by cases hl⟩
theorem HR.one(N:NR S g M i n)(hu:n.up=true){l:YF}(hl:LR S g M l):HR S g M i ⟨n,[l],[]⟩:=⟨N,hu,fun x hx=>by
 have:x=l:=by simpa using hx
 rw[this];exact hl⟩
theorem LG{p b:Yw}{l:List Vt}(h:YG p l b=0):¬ZL b p:=by
 unfold YG at h;split at h
 .omega
 .split at h
  .omega
  .split at h
   .omega
   .assumption
theorem LH{p:Yw}{l:List Vt}{v:Vt}(h:Xj p l v=0):¬ZL v.b p:=by
 unfold Xj at h;split at h
 .omega
 .split at h
  .omega
  .split at h
   .omega
   .assumption
theorem NR.wait(N:NR S g M i n)(hu:n.up=true)(hp:n.Zs=Z){p:LV}{f:List Nat}(hb:JA n.Zq f=Y (WM p))(hl:(n.data++YS f).length<=100000)(hr:PR g n p):NR S g M i { n with data:=n.data++YS f,Zs:=Y p }:=by
 obtain⟨h1,h2⟩:=N.tape.idle hu hp;have eA:Wh { n with data:=n.data++YS f,Zs:=Y p } = Wh n:=by rw[JC hu,JC (n:={ n with data:=n.data++YS f,Zs:=Y p }) hu]
 refine⟨by rw[eA];exact N.acc,by rw[eA];exact N.m,⟨fun _ e=>(by cases e),fun _ q hq=>?_,fun e=>?_,hl⟩,fun q hq=>?_,N.Zi,N.ZB,N.cV,fun r hr=>?_⟩
 .cases hq
  exact⟨n.data,f,rfl,h2,h1,hb⟩
 .rw[show ({ n with data:=n.data++YS f,Zs:=Y p }:Nd).up=n.up from rfl,hu]at e
  cases e
 .cases hq
  cases p<;>exact hr
 .have R:=N.Zh r hr;exact⟨R.ZV,R.may,R.ZI,R.pn,R.pr,R.safe,R.free,R.Y5⟩
theorem jC(hi:i<5)(G:GI S g M)(N:NR S g M i n)(hu:n.up=true)(hp:n.Zs=Z)(EJ:n.me=i){l:YF}:HR S g M i (YB n l):=by
 have eA:=JC hu;have Uo:=N.acc;have hM:=N.m;rw[eA]at Uo hM;unfold YB;split
 .exact .one N hu (.plain (.inr (.inr rfl)))
 .rename_i c1;split
  .rename_i c2;refine .one N hu ⟨fun _=>?_,fun e=>(by cases e),fun e=>(by cases e),fun e=>(by cases e),fun e=>(by cases e)⟩;have:=Uo.pf G hi hM;rw[c2]at this;show PF g M (((n.me:Nat):Int)).toNat l.b n.Zq.l;rw[a0,EJ];exact this
  .split
   .exact .same N hu
   .rename_i c3;have e1:YG n.Zq.p n.Zq.l l.b=0:=by simpa using c1
    have e3:Ji n.data n.YZ l.b=0:=by simpa using c3
    refine⟨N.wait hu hp (f:=JL l.b) (cQ e1) ?_ ⟨rfl,rfl,e1⟩,hu,fun l hl=>by cases hl⟩;rw[au,OV];exact LA e3
theorem ZdL(hi:i<5)(G:GI S g M)(N:NR S g M i n)(hu:n.up=true)(hp:n.Zs=Z)(EJ:n.me=i){l:YF}(L:g.P l.v.b l.v.Zu l.v.cm):HR S g M i (asked n l):=by
 have eA:=JC hu;have Uo:=N.acc;rw[eA]at Uo;unfold asked;split
 .exact .one N hu (.plain (.inr (.inr rfl)))
 .rename_i c1;split
  .rename_i c2;refine .one N hu ⟨fun e=>(by cases e),fun e=>(by cases e),fun _=>?_,fun e=>(by cases e),fun e=>(by cases e)⟩;show g.V (((n.me:Nat):Int)).toNat l.v.b l.v.Zu l.v.cm;rw[a0,EJ];exact Uo.has _ c2
  .split
   .exact .same N hu
   .rename_i c3;have e1:Xj n.Zq.p n.Zq.l l.v=0:=by simpa using c1
    have e3:QZ n.data n.YZ l.v=0:=by simpa using c3
    refine⟨N.wait hu hp (f:=Up l.v) (zY e1) ?_ ⟨rfl,e1,L⟩,hu,fun l hl=>by cases hl⟩;rw[au,BC];exact cI e3
theorem NR.more(N:NR S g M i n)(hp:n.Zs=Z){m:Nd}(h1:m.up=n.up)(h2:m.data=n.data)(h3:m.YZ=n.YZ)(h4:m.Zq=n.Zq)(h5:m.Zh=n.Zh)(h6:m.Zs=n.Zs)(k1:∀s x,Yh m.Zi s=Y x->Jk g s x)(k2:∀s,Yh m.Zi s=Z->Yh n.Zi s=Z)(k3:∀(k:Nat) x,m.ZB[k]? = Y x->Jk g (k:Int) x)(k4:n.ZB.length<=m.ZB.length)(k5:∀x∈m.Zx,S x):NR S g M i m:=by
 have eA:Wh m=Wh n:=by unfold Wh;rw[h1,h2,h4]
 have T:=N.tape;refine⟨by rw[eA];exact N.acc,by rw[eA];exact N.m,⟨fun e1 e2=>?_,fun _ p e=>?_,fun e=>?_,by rw[h2];exact T.len⟩,fun p e=>?_,k1,k3,k5,fun r e=>?_⟩
 .rw[h2,h3,h4];exact T.idle (by rw[<-h1];exact e1) hp
 .rw[h6,hp]at e;cases e
 .rw[h2,h3,h6];exact T.down (by rw[<-h1];exact e)
 .rw[h6,hp]at e;cases e
 .have R:=N.Zh r (by rw[<-h5];exact e);exact⟨R.ZV,R.may,R.ZI,R.pn,R.pr,R.safe,fun q s q1 q2 q3=>R.free q s nc q2 (k2 s q3),R.Y5⟩
theorem Zad(N:NR S g M i n)(hp:n.Zs=Z){x:Cm}(hx:Yh n.Zi (n.ZB.length:Int)=Y x):NR S g M i (JU n x):=by
 refine N.more hp rfl rfl rfl rfl rfl rfl N.Zi (fun s h=>h) (fun k y e=>?_) (by show n.ZB.length<=(n.ZB++[x]).length;simp) (fun y hy=>N.cV y (a3.1 hy).1);have e:(n.ZB++[x])[k]? = Y y:=e;rw[List.getElem?_append]at e;split at e
 .exact N.ZB k y e
 .rename_i q;have:k=n.ZB.length:=by
   refine a9 fun Y4=>?_;rw[List.getElem?_eq_none KQ]at e
   cases e
  subst this;rw[Nat.sub_self]at e
  cases e
  exact N.Zi _ _ hx
theorem rG:∀(k:Nat) (n:Nd),NR S g M i n->n.Zs=Z->n.up=true->NR S g M i (Yg k n).1/\(Yg k n).1.Zs=Z/\(Yg k n).1.up=true:=by
 intro k
 induction k with
 | zero=>intro n N hp hu;exact⟨N,hp,hu⟩
 | succ k ih=>
  intro n N hp hu;unfold Yg;split
  .exact⟨N,hp,hu⟩
  .rename_i x hx;exact ih _ (Zad N hp hx) hp hu
theorem mN(N:NR S g M i n)(hp:n.Zs=Z)(hu:n.up=true){s:Int}{x:Cm}(hc:Jk g s x):HR S g M i (Jg n s x):=by
 have N1:NR S g M i (Jf n s x):=by
  refine N.more hp rfl rfl rfl rfl rfl rfl (fun t y e=>?_) (fun t e=>?_) N.ZB (bd _) N.cV
  .have e:Yh (ins n.Zi s x) t=Y y:=e;rw[Xf]at e;split at e
   .rename_i q;cases e;rw[<-q];exact hc
   .exact N.Zi t y e
  .have e:Yh (ins n.Zi s x) t=Z:=e;rw[Xf]at e;split at e
   .cases e
   .exact e
 obtain⟨h1,_,h3⟩:=rG ((Jf n s x).Zi.length+1) _ N1 hp hu;exact⟨h1,h3,fun l hl=>by cases hl⟩
theorem NR.Zmv(N:NR S g M i n)(hp:n.Zs=Z)(R:RR g M i n r):NR S g M i { n with Zh:=Y r }:=
 ⟨N.acc,N.m,⟨N.tape.idle,N.tape.busy,N.tape.down,N.tape.len⟩,fun p e=>(by rw[show ({ n with Zh:=Y r }:Nd).Zs=n.Zs from rfl,hp]at e;cases e),N.Zi,N.ZB,N.cV,fun r' e=>by
  obtain rfl:=Option.some.inj e;exact⟨R.ZV,R.may,R.ZI,R.pn,R.pr,R.safe,R.free,R.Y5⟩⟩
theorem jD(G:GI S g M)(N:NR S g M i n)(hp:n.Zs=Z)(hu:n.up=true)(NI:Ub C i n){l:YF}(LI:Ua C l)(L:LR S g M l)(hk:l.Z7=1\/l.Z7=3):HR S g M i (Yl n l):=by
 unfold Yl;split
 .exact .same N hu
 .rename_i r hr;have R:=N.Zh r hr;have RI:=NI.Zh r hr;split
  .rename_i k1;split
   .rename_i k2;refine .same ?_ hu;refine N.Zmv hp ⟨R.ZV,R.may,fun j vs e=>?_,R.pn,R.pr,R.safe,R.free,R.Y5⟩;have e:Yh (ins r.ZI l.Jq l.vs) j=Y vs:=e;rw[Xf]at e;split at e
    .rename_i q;cases e;rw[<-q];have:=L.VB k1;rw[k2]at this;exact this
    .exact R.ZI j vs e
   .exact .same N hu
  .rename_i k1;have k3:l.Z7=3:=nc;split
   .exact .same N hu
   .rename_i k2;have eb:l.v.b=r.b:=a9 fun q=>k2 q;have hv:=L.TC k3;rw[eb]at hv;have PU:∀j,Yh (Q2 r l) j=Y ()->∃x,g.V j.toNat r.b l.v.Zu x:=fun j e=>by
     unfold Q2 at e;rw[Xf]at e;split at e
     .rename_i q;rw[<-q];exact⟨_,hv⟩
     .cases q:Yh r.Y5 l.v.Zu with
      | none=>rw[q]at e;cases e
      | some K=>rw[q]at e;exact R.Y5 _ K j q e
    have N1:NR S g M i (Tq n r l):=by
     refine N.Zmv hp ⟨R.ZV,R.may,R.ZI,R.pn,R.pr,R.safe,R.free,fun s K j e1 e2=>?_⟩;have e1:Yh (ins r.Y5 l.v.Zu (Q2 r l)) s=Y K:=e1;rw[Xf]at e1;split at e1
     .rename_i q;cases e1;rw[<-q];exact PU j e2
     .exact R.Y5 s K j e1 e2
    split
    .rename_i k4;refine mN N1 hp hu ?_;have KI:Sz 5 (Q2 r l):=by
      unfold Q2;refine Sz.ins ?_ LI.Jq ()
      cases q:Yh r.Y5 l.v.Zu with
      | none=>exact Sz.nil 5
      | some K=>exact RI.Rg _ (Rx q)
     refine⟨_,r.b,KI.maj k4,fun j hj=>?_⟩;obtain⟨u,hu⟩:=KI.back hj;obtain⟨x,hx⟩:=PU j hu;rw[a0]at hx;have:=G.one _ _ _ _ (G.vp _ _ _ _ hx) (G.vp _ _ _ _ hv);rw[<-this];exact hx
    .exact .same N1 hu
theorem mO(N:NR S g M i n)(hp:n.Zs=Z)(l:YF):NR S g M i (Xs n l)/\(Xs n l).up=n.up:=by
 unfold Xs;split
 .exact⟨N.more hp rfl rfl rfl rfl rfl rfl N.Zi (fun s h=>h) N.ZB (bd _) N.cV,rfl⟩
 .exact⟨N,rfl⟩
theorem Zfb(N:NR S g M i n){x:Cm}(hx:S x):NR S g M i (add n x)/\(add n x).up=n.up/\(add n x).Zs=n.Zs:=by
 unfold add;split
 .exact⟨N,rfl,rfl⟩
 .refine⟨⟨N.acc,N.m,⟨N.tape.idle,N.tape.busy,N.tape.down,N.tape.len⟩,fun p e=>?_,N.Zi,N.ZB,fun y hy=>?_,fun r e=>?_⟩,rfl,rfl⟩
  .have:=N.Zs p e
   cases p<;>exact this
  .rcases al.1 hy with hy|hy
   .exact N.cV y hy
   .have:y=x:=by simpa using hy
    rw[this];exact hx
  .have R:=N.Zh r e;exact⟨R.ZV,R.may,R.ZI,R.pn,R.pr,R.safe,R.free,R.Y5⟩
theorem Zae(hi:i<5)(G:GI S g M)(N:NR S g M i n)(hu:n.up=true)(hp:n.Zs=Z)(NI:Ub C i n){l:YF}(LI:Ua C l)(L:LR S g M l):HR S g M i (Zw n l):=by
 have EJ:=NI.me;unfold Zw;split
 .exact jC hi G N hu hp EJ
 split
 .rename_i k;exact jD G N hp hu NI LI L k
 split
 .rename_i k;exact ZdL hi G N hu hp EJ (L.ask k)
 split
 .rename_i k;obtain⟨h1,h2,_⟩:=Zfb N (L.fwd k);exact .same h1 (by rw[h2];exact hu)
 split
 .unfold Qp;obtain⟨h1,h2⟩:=mO N hp l;split
  .rename_i x hx;refine .one h1 (by rw[h2];exact hu) ⟨fun e=>(by cases e),fun e=>(by cases e),fun e=>(by cases e),fun e=>(by cases e),fun _=>?_⟩;exact N.Zi _ _ hx
  .exact .same h1 (by rw[h2];exact hu)
 split
 .rename_i k;exact mN N hp hu (L.cho k)
 .obtain⟨h1,h2⟩:=mO N hp l;exact .same h1 (by rw[h2];exact hu)
theorem NR.box(N:NR S g M i n)(k:List YF):NR S g M i { n with Zg:=k }:=
 ⟨N.acc,N.m,⟨N.tape.idle,N.tape.busy,N.tape.down,N.tape.len⟩,fun p e=>(by have:=N.Zs p e;cases p<;>exact this),N.Zi,N.ZB,N.cV,fun r e=>by
  have R:=N.Zh r e;exact⟨R.ZV,R.may,R.ZI,R.pn,R.pr,R.safe,R.free,R.Y5⟩⟩
end
theorem jE(s:Int):∀(l:List Vt) (b:Vt),(l.foldl (US s) b=b\/(l.foldl (US s) b∈l/\(l.foldl (US s) b).Zu=s))/\¬ZL (l.foldl (US s) b).b b.b/\∀v∈l,v.Zu=s->¬ZL (l.foldl (US s) b).b v.b:=by
 intro l
 induction l with
 | nil=>intro b;exact⟨.inl rfl,Qu _,fun v hv=>by cases hv⟩
 | cons x l ih=>
  intro b;obtain⟨h1,h2,h3⟩:=ih (US s b x);rw[a6];have hx:¬ZL (US s b x).b b.b/\(x.Zu=s->¬ZL (US s b x).b x.b)/\(US s b x=b\/(US s b x=x/\x.Zu=s)):=by
   unfold US;split
   .rename_i q;exact⟨LF q.2,fun _=>Qu _,.inr ⟨rfl,q.1⟩⟩
   .rename_i q;exact⟨Qu _,fun e f=>q ⟨e,f⟩,.inl rfl⟩
  refine⟨?_,X4 hx.1 h2,fun v hv e=>?_⟩
  .rcases h1 with h1|⟨h1,h4⟩
   .rw[h1];rcases hx.2.2 with q|⟨q,q2⟩
    .exact .inl q
    .rw[q];exact .inr ⟨Hg,q2⟩
   .exact .inr ⟨by simp[h1],h4⟩
  .rcases ba.1 hv with rfl|hv
   .exact X4 (hx.2.1 e) h2
   .exact h3 v hv e
theorem Mi:∀(l:List Vt) (t:Int),t<=l.foldl (fun t v=>if t<v.Zu then v.Zu else t) t/\(∀v∈l,v.Zu<=l.foldl (fun t v=>if t<v.Zu then v.Zu else t) t)/\(l.foldl (fun t v=>if t<v.Zu then v.Zu else t) t=t\/∃v∈l,l.foldl (fun t v=>if t<v.Zu then v.Zu else t) t=v.Zu):=by
 intro l
 induction l with
 | nil=>intro t;exact⟨Int.le_refl _,fun v hv=>(by cases hv),.inl rfl⟩
 | cons x l ih=>
  intro t;obtain⟨h1,h2,h3⟩:=ih (if t<x.Zu then x.Zu else t);rw[a6];have hx:t<=(if t<x.Zu then x.Zu else t)/\x.Zu<=(if t<x.Zu then x.Zu else t)/\((if t<x.Zu then x.Zu else t)=t\/(if t<x.Zu then x.Zu else t)=x.Zu):=by
   split
   .exact⟨nc,nc,.inr rfl⟩
   .exact⟨nc,nc,.inl rfl⟩
  refine⟨nc,fun v hv=>?_,?_⟩
  .rcases ba.1 hv with rfl|hv
   .omega
   .exact h2 v hv
  .rcases h3 with h3|⟨v,hv,h3⟩
   .rcases hx.2.2 with q|q
    .exact .inl (by rw[h3,q])
    .exact .inr ⟨x,Hg,by rw[h3,q]⟩
   .exact .inr ⟨v,by simp[hv],h3⟩
theorem KC{v:Vt}(h:v∈(Yo r).flatten):∃m:Nat,m<5/\∃vs,Yh r.ZI (m:Int)=Y vs/\v∈vs:=by
 obtain⟨l,h1,h2⟩:=bl.1 h;unfold Yo at h1;obtain⟨m,h3,rfl⟩:=aU.1 h1;rw[bg]at h3
 cases e:Yh r.ZI (m:Int) with
 | none=>rw[e]at h2;cases h2
 | some vs=>rw[e]at h2;exact⟨m,h3,vs,e,h2⟩
theorem Rm{v:Vt}{m:Nat}(hm:m<5){vs:List Vt}(h:Yh r.ZI (m:Int)=Y vs)(hv:v∈vs):v∈(Yo r).flatten:=by
 refine bl.2 ⟨vs,?_,hv⟩;unfold Yo;exact aU.2 ⟨m,bg.2 hm,by rw[h];rfl⟩
theorem KD{a:UC}(h:EL a)(hb:∀v∈a.l,¬ZL a.p v.b):Jy a.p a.l=0:=by
 refine P9 ?_ (fun j hj=>?_)
 .rintro⟨h1,h2⟩;rcases h.bal with q|q
  .exact h1 q
  .exact h2 q
 .rw[Lb hj];refine⟨h.Y5.1 _ (bz hj),hb _ (bz hj),?_⟩;by_cases e:j=0
  .exact .inl e
  .rw[OL (j:=j-1) nc];exact .inr (List.pairwise_iff_getElem.1 h.Y5.2 (j-1) j nc hj nc)
section
variable {S:Cm->Prop} {g:Gh} {M:Nat->Yw} {i:Nat} {n:Nd}
theorem DZ(RI:Mh r):∀v∈(Yo r).flatten,Ym v:=fun v hv=>by
 obtain⟨m,_,vs,h1,h2⟩:=KC hv;exact (RI.vs _ (Rx h1)).1 v h2
theorem ZdM(RI:Mh r):RM (Yo r).flatten<=39:=by
 obtain⟨_,_,h3⟩:=Mi (Yo r).flatten (-1);have e:RM (Yo r).flatten=(Yo r).flatten.foldl (fun t v=>if t<v.Zu then v.Zu else t) (-1):=rfl;rcases h3 with h3|⟨v,hv,h3⟩
 .omega
 .have:=(DZ RI v hv).1;omega
theorem rH(G:GI S g M)(R:RR g M i n r)(RI:Mh r)(hb:r.XM=false)(hm:5<2*r.ZI.length)(s:Nat)(hs:(s:Int)<=RM (Yo r).flatten):
  Safe g M r.b s (Oj (Yo r) s)/\(Oj (Yo r) s=IB\/S (Oj (Yo r) s)):=by
 have h39:=ZdM RI;have ZdN:=DZ RI;have xH:Sc (s:Int) (Yo r).flatten=0:=by
  unfold Sc WH;rw[if_neg nc,if_pos (List.all_eq_true.2 fun v hv=>decide_eq_true (ZdN v hv))]
 have hpc:Oj (Yo r) s=(WF (s:Int) (Yo r).flatten).cm:=by unfold Oj;rw[if_pos xH]
 obtain⟨h1,_,h3⟩:=jE (s:Int) (Yo r).flatten St;obtain⟨B,hB⟩:=ZQ (WF (s:Int) (Yo r).flatten);rw[hpc,<-hB];have eB:(Yo r).flatten.foldl (US (s:Int)) St=B:=hB.symm;rw[eB]at h1 h3;have hQ:=RI.ZI.maj hm;have hPF:∀i:Nat,i∈r.ZI.map (fun x=>x.1.toNat)->∃vs,Yh r.ZI (i:Int)=Y vs/\PF g M i r.b vs:=fun i hi=>by
  obtain⟨vs,h⟩:=RI.ZI.back hi;have:=R.ZI _ _ h;rw[a0]at this;exact⟨vs,h,this⟩
 have Lh:∀i∈r.ZI.map (fun x=>x.1.toNat),¬ZL (M i) r.b:=fun i hi=>by
  obtain⟨vs,_,h⟩:=hPF i hi;exact h.Z4
 rcases h1 with h1|⟨h1,h4⟩
 .subst h1;refine⟨⟨_,hQ,Lh,.inl fun i hi b' y Qa hv=>?_⟩,.inl rfl⟩;obtain⟨vs,DO,h⟩:=hPF i hi;obtain⟨v,v1,v2,_⟩:=h.all b' s y Qa hv;have:=h3 v (Rm h.lt DO v1) v2;have:=(h.has v v1).1;have hvm:=ZdN v (Rm h.lt DO v1);have:=hvm.2.1;unfold ZF at this;have h7:ZL St.b v.b:=by unfold ZL St;simp only;omega
  exact h3 v (Rm h.lt DO v1) v2 h7
 .obtain⟨m,hm5,vs,e1,e2⟩:=KC h1;have hp:=R.ZI _ _ e1;rw[a0]at hp;obtain⟨p1,p2⟩:=hp.has B e2;rw[h4]at p1;have p3:ZL B.b r.b:=by
   refine a9 fun q=>?_;have:=RU q p2;exact R.pn hb _ _ (by rw[<-this];exact G.vp _ _ _ _ p1)
  refine⟨⟨_,hQ,Lh,.inr ⟨B.b,m,p3,p1,fun i hi b' y Qa hv=>?_⟩⟩,G.cmd _ _ _ (G.vp _ _ _ _ p1)⟩;obtain⟨vs',DO,h⟩:=hPF i hi;obtain⟨v,v1,v2,v3⟩:=h.all b' s y Qa hv;exact X4 v3 (h3 v (Rm h.lt DO v1) v2)
theorem Zaf(R:RR g M i n r)(RI:Mh r)(hm:5<2*r.ZI.length){s:Int}(hs:RM (Yo r).flatten<s):IM g M r.b s:=by
 have hQ:=RI.ZI.maj hm;obtain⟨_,h2,_⟩:=Mi (Yo r).flatten (-1);refine⟨_,hQ,fun i hi=>?_,fun i hi b' y Qa hv=>?_⟩
 .obtain⟨vs,h⟩:=RI.ZI.back hi;have:=R.ZI _ _ h;rw[a0]at this;exact this.Z4
 .obtain⟨vs,h⟩:=RI.ZI.back hi;have h:=R.ZI _ _ h;rw[a0]at h;obtain⟨vs',h'⟩:=RI.ZI.back hi;have h:=R.ZI _ _ h';rw[a0]at h;obtain⟨v,v1,v2,_⟩:=h.all b' s y Qa hv;have:=h2 v (Rm h.lt h' v1);have e:RM (Yo r).flatten=(Yo r).flatten.foldl (fun t v=>if t<v.Zu then v.Zu else t) (-1):=rfl;omega
theorem jF(n:Nd)(LL:List (List Vt)):∀(cnt L:Nat) (pr:List (Int × Cm)),
  (∀t y,Yh ((bC L cnt).foldl (JV n LL) pr) t=Y y->Yh pr t=Y y\/∃s:Nat,L<=s/\s<L+cnt/\t=s/\y=Oj LL s) /\
  (∀s:Nat,L<=s->s<L+cnt->Yh n.Zi (s:Int)=Z->Yh ((bC L cnt).foldl (JV n LL) pr) (s:Int)≠Z) /\
  (∀t,Yh pr t≠Z->Yh ((bC L cnt).foldl (JV n LL) pr) t≠Z):=by
 intro cnt
 induction cnt with
 | zero=>intro L pr;exact⟨fun t y h=>.inl h,fun s h1 h2=>nc,fun t h=>h⟩
 | succ cnt ih=>
  intro L pr;rw[List.range'_succ,a6];obtain⟨h1,h2,h3⟩:=ih (L+1) (JV n LL pr L);have hb:∀t,Yh pr t≠Z->Yh (JV n LL pr L) t≠Z:=fun t h=>by
   unfold JV;split
   .rw[Xf];split
    .simp
    .exact h
   .exact h
  refine⟨fun t y h=>?_,fun s hs1 hs2 hk=>?_,fun t h=>h3 t (hb t h)⟩
  .rcases h1 t y h with h|⟨s,q1,q2,q3,q4⟩
   .unfold JV at h;split at h
    .rw[Xf]at h;split at h
     .rename_i e;cases h;exact .inr ⟨L,nc,nc,e.symm,rfl⟩
     .exact .inl h
    .exact .inl h
   .exact .inr ⟨s,nc,nc,q3,q4⟩
  .by_cases e:s=L
   .subst e;refine h3 _ ?_;unfold JV;rw[if_pos hk,Xf,if_pos rfl];simp
   .exact h2 s nc nc hk
theorem OY{x:Cm}:∀(k s t:Nat),Qe n r x k s=Y t->s<=t/\t<s+k/\Yh r.ZW (t:Int)=Z/\Yh n.Zi (t:Int)=Z:=by
 intro k
 induction k with
 | zero=>intro s t h;cases h
 | succ k ih=>
  intro s t h;unfold Qe at h;split at h
  .cases h
  .split at h
   .rename_i q;cases h;exact⟨bd _,nc,q.1,q.2⟩
   .have:=ih _ _ h;exact⟨nc,nc,this.2.2⟩
structure RB(S:Cm->Prop)(g:Gh)(M:Nat->Yw)(n:Nd)(r r':Xw):Prop where
 b:r'.b=r.b
 ZI:r'.ZI=r.ZI
 Y5:r'.Y5=r.Y5
 XM:r'.XM=true
 LU:∀t y,g.P r.b t y->Yh r'.ZW t=Y y
 safe:∀t y,Yh r'.ZW t=Y y->Safe g M r.b t y/\(y=IB\/S y)
 free:∀s:Int,(n.ZB.length:Int)<=s->Yh r'.ZW s=Z->Yh n.Zi s=Z->IM g M r.b s
theorem RB.one{r':Xw}(h:RB S g M n r r'){x:Cm}(hx:S x):RB S g M n r (J4 n r' x):=by
 unfold J4;split
 .rename_i s hs;obtain⟨h1,h2,h3,h4⟩:=OY _ _ _ hs;have ho:=h.free s nc h3 h4;refine⟨h.b,h.ZI,h.Y5,h.XM,fun t y e=>?_,fun t y e=>?_,fun t q1 q2 q3=>?_⟩
  .have:=h.LU t y e;show Yh (ins r'.ZW (s:Int) x) t=Y y;rw[Xf,if_neg (fun e=>by rw[<-e,h3]at this;cases this)];exact this
  .have e:Yh (ins r'.ZW (s:Int) x) t=Y y:=e;rw[Xf]at e;split at e
   .rename_i q;cases e;rw[<-q];exact⟨ho.safe x,.inr hx⟩
   .exact h.safe t y e
  .have q2:Yh (ins r'.ZW (s:Int) x) t=Z:=q2;rw[Xf]at q2;split at q2
   .cases q2
   .exact h.free t q1 q2 q3
 .exact h
theorem RB.all:∀(l:List Cm) (r':Xw),RB S g M n r r'->(∀x∈l,S x)->RB S g M n r (Jd n r' l):=by
 intro l
 induction l with
 | nil=>intro r' h _;exact h
 | cons x l ih=>intro r' h hl;exact ih _ (h.one (hl x Hg)) (fun y hy=>hl y (by simp[hy]))
theorem Zag(G:GI S g M)(R:RR g M i n r)(RI:Mh r)(hb:r.XM=false)(hm:5<2*r.ZI.length):RB S g M n r (Wa n r):=by
 obtain⟨h1,h2,_⟩:=jF n (Yo r) ((RM (Yo r).flatten+1).toNat-n.ZB.length) n.ZB.length r.ZW;refine⟨rfl,rfl,rfl,rfl,fun t y e=>(R.pn hb _ _ e).elim,fun t y e=>?_,fun s q1 q2 q3=>?_⟩
 .rcases h1 t y e with e|⟨s,s1,s2,rfl,rfl⟩
  .exact (R.pn hb _ _ (R.safe _ _ e)).elim
  .exact rH G R RI hb hm s nc
 .obtain⟨k,rfl⟩:∃k:Nat,s=k:=⟨s.toNat,nc⟩
  by_cases hk:(k:Int)<=RM (Yo r).flatten
  .exact (h2 k nc nc q3 q2).elim
  .exact Zaf R RI hm nc
theorem RR.rb(G:GI S g M)(R:RR g M i n r)(hb:r.XM=true):RB S g M n r r:=
 ⟨rfl,rfl,rfl,hb,R.pr,fun t y e=>⟨G.safe _ _ _ (R.safe _ _ e),G.cmd _ _ _ (R.safe _ _ e)⟩,R.free hb⟩
theorem Zah(G:GI S g M)(R:RR g M i n r)(RI:Mh r)(hm:5<2*r.ZI.length)(hq:∀x∈n.Zx,S x):RB S g M n r (X2 n r):=by
 unfold X2;refine RB.all _ _ ?_ hq;split
 .rename_i hb;exact R.rb G hb
 .rename_i hb;exact Zag G R RI (by simpa using hb) hm
structure SR(S:Cm->Prop)(g:Gh)(M:Nat->Yw)(i:Nat)(o:Out)(g':Gh)(M':Nat->Yw):Prop where
 e:Ext i g M g' M'
 gi:GI S g' M'
 h:HR S g' M' i o
theorem SR.same(G:GI S g M){o:Out}(h:HR S g M i o):SR S g M i o g M:=⟨Ext.refl _ _ _,G,h⟩
theorem ZhB(hi:i<5)(G:GI S g M)(N:NR S g M i n)(hu:n.up=true)(hp:n.Zs=Z)(NI:Ub C i n)(hr:n.Zh=Y r):∃g' M',SR S g M i (JM n r) g' M':=by
 have eA:=JC hu;have R:=N.Zh r hr;have RI:=NI.Zh r hr;have Uo:=N.acc;have hM:=N.m;rw[eA]at Uo hM;unfold JM;split
 .rename_i c1;split
  .exact⟨g,M,.same G (.same N hu)⟩
  .rename_i c2;have ea:Jy n.Zq.p n.Zq.l=0:=KD NI.Zq (fun v hv=>by rw[<-hM];exact G.Z4 _ _ _ _ (Uo.has v hv));have e1:YG n.Zq.p n.Zq.l r.b=0:=by
    unfold YG;rw[if_neg (by rw[ea];decide),if_neg (fun h=>h R.may),if_neg (LF c1)]
   have e3:Ji n.data n.YZ r.b=0:=by simpa using c2
   rw[if_pos e1,if_pos e1];refine⟨g,M,.same G ⟨N.wait hu hp (f:=JL r.b) (cQ e1) ?_ ⟨r.b,rfl,rfl,e1,fun _=>⟨r,hr,rfl⟩⟩,hu,fun l hl=>by cases hl⟩⟩;rw[au,OV];exact LA e3
 .rename_i c1;split
  .refine⟨g,M,.same G ⟨N,hu,fun l hl=>?_⟩⟩;unfold RN at hl;obtain⟨m,_,hl⟩:=a7.1 hl;split at hl
   .rw[aI.1 hl];exact .plain (.inl rfl)
   .cases hl
  .rename_i c2;have B:=Zah G R RI (by simpa using c2) N.cV;have hP:=cO G (i:=i) (b:=r.b) (l:=(X2 n r).ZW) R.ZV R.may (by rw[hM];exact c1) B.LU (fun t y e=>(B.safe t y e).1) (fun t y e=>(B.safe t y e).2);obtain⟨E,G'⟩:=hP;obtain⟨g',Ec⟩:=ZQ (mK g r.b (X2 n r).ZW);have hV:g'.V=g.V:=by rw[Ec];rfl
   have hPn:∀s x,Yh (X2 n r).ZW s=Y x->g'.P r.b s x:=fun s x e=>by rw[Ec];exact .inr ⟨rfl,e⟩
   have hPo:∀s x,g'.P r.b s x->Yh (X2 n r).ZW s=Y x:=fun s x e=>by
    rw[Ec]at e;rcases e with e|e
    .exact B.LU s x e
    .exact e.2
   rw[<-Ec]at E G';have Nn:NR S g' M i { n with Zh:=Y (X2 n r) }:=by
    refine⟨⟨fun v hv=>E.v _ _ _ _ (N.acc.has v hv),fun b s x hv=>N.acc.all b s x (by rw[<-hV];exact hv)⟩,N.m,⟨N.tape.idle,N.tape.busy,N.tape.down,N.tape.len⟩,fun p e=>?_,fun s x e=>(N.Zi s x e).ext E,fun k x e=>(N.ZB k x e).ext E,N.cV,fun r' e=>?_⟩
    .rw[show ({ n with Zh:=Y (X2 n r) }:Nd).Zs=n.Zs from rfl,hp]at e;cases e
    .obtain rfl:=Option.some.inj e;refine⟨by rw[B.b];exact R.ZV,by rw[B.b];exact R.may,fun j vs q=>?_,fun q=>?_,?_,?_,?_,fun s K j q1 q2=>?_⟩
     .rw[B.ZI]at q;rw[B.b];exact (R.ZI j vs q).ext E
     .rw[B.XM]at q;cases q
     .rw[B.b];exact hPo
     .rw[B.b];exact hPn
     .rw[B.b];exact fun _ s q1 q2 q3=>(B.free s q1 q2 q3).ext E
     .rw[B.Y5]at q1;rw[B.b,hV];exact R.Y5 s K j q1 q2
   refine⟨g',M,E,G',Nn,hu,fun l hl=>?_⟩;have hl:l∈Tt n (X2 n r):=hl;unfold Tt at hl;obtain⟨s,_,hl⟩:=a7.1 hl;unfold Vx at hl;split at hl
   .rename_i x hx;split at hl
    .obtain⟨m,_,hl⟩:=a7.1 hl;unfold Pk at hl;split at hl
     .obtain rfl:=aI.1 hl;refine⟨fun e=>(by cases e),fun _=>?_,fun e=>(by cases e),fun e=>(by cases e),fun e=>(by cases e)⟩;show g'.P (X2 n r).b _ _;rw[B.b];exact hPn _ _ hx
     .cases hl
    .cases hl
   .cases hl
theorem ZdO(N:NR S g M i n)(hp:n.Zs=Z)(hu:n.up=true):NR S g M i (Zo n)/\(Zo n).Zs=Z/\(Zo n).up=true:=by
 unfold Zo;split
 .rename_i r hr;split
  .refine⟨⟨N.acc,N.m,⟨N.tape.idle,N.tape.busy,N.tape.down,N.tape.len⟩,fun p e=>?_,N.Zi,N.ZB,N.cV,fun r' e=>by cases e⟩,hp,hu⟩;have e:n.Zs=Y p:=e;rw[hp]at e;cases e
  .exact⟨N,hp,hu⟩
 .exact⟨N,hp,hu⟩
theorem ZdP(hi:i<5)(G:GI S g M)(N:NR S g M i n)(hu:n.up=true)(hp:n.Zs=Z)(NI:Ub C i n):∃g' M',SR S g M i (Z9 n) g' M':=by
 unfold Z9;split
 .rename_i r hr;exact ZhB hi G N hu hp NI hr
 .split
  .refine⟨g,M,.same G ⟨N,hu,fun l hl=>?_⟩⟩;have hl:l∈Wu n:=hl;unfold Wu at hl;obtain⟨x,hx,rfl⟩:=aU.1 hl;exact⟨fun e=>(by cases e),fun e=>(by cases e),fun e=>(by cases e),fun _=>N.cV x hx,fun e=>(by cases e)⟩
  .exact⟨g,M,.same G (.same N hu)⟩
theorem rI(n:Nd):∀l∈UI n,LR S g M l:=fun l hl=>by
 unfold UI at hl;split at hl
 .rw[aI.1 hl];exact .plain (.inr (.inl rfl))
 .cases hl
theorem NR.Ys(N:NR S g M i n):NR S g M i (JW n):=
 ⟨N.acc,N.m,⟨N.tape.idle,N.tape.busy,N.tape.down,N.tape.len⟩,fun p e=>(by have:=N.Zs p e;cases p<;>exact this),N.Zi,N.ZB,N.cV,fun r e=>by
  have R:=N.Zh r e;exact⟨R.ZV,R.may,R.ZI,R.pn,R.pr,R.safe,R.free,R.Y5⟩⟩
theorem ZhC(hi:i<5)(G:GI S g M)(N:NR S g M i n)(hu:n.up=true)(hp:n.Zs=Z)(NI:Ub C i n):∃g' M',SR S g M i (Yp n) g' M':=by
 obtain⟨N1,p1,u1⟩:=ZdO N hp hu;obtain⟨g',M',E,G',H⟩:=ZdP hi G N1 u1 p1 (mE NI).1;unfold Yp;split
 .exact⟨g',M',E,G',H⟩
 .refine⟨g',M',E,G',H.n.Ys,H.up,fun l hl=>?_⟩;rcases al.1 hl with hl|hl
  .exact H.ls l hl
  .exact rI _ l hl
theorem Zai(G:GI S g M)(N:NR S g M i n)(hu:n.up=true){p:LV}(hp:n.Zs=Y p):∃g' M',Ext i g M g' M'/\GI S g' M'/\AR g' i (WM p)/\M' i=(WM p).p/\(∀b s x,g'.P b s x↔g.P b s x)/\(∀a to v,p=.TC a to v->g'.V i v.b v.Zu v.cm):=by
 have eA:=JC hu;have Uo:=N.acc;have hM:=N.m;rw[eA]at Uo hM;have hPR:=N.Zs p hp;have same:∀b,¬ZL b (M i)->∃g' M',Ext i g M g' M'/\GI S g' M'/\AR g' i ⟨b,n.Zq.l⟩/\M' i=b/\(∀b s x,g'.P b s x↔g.P b s x):=fun b hb=>by
  obtain⟨E,G'⟩:=raised G hb;exact⟨g,Nf M i b,E,G',⟨Uo.has,Uo.all⟩,by unfold Nf;rw[if_pos rfl],fun _ _ _=>Iff.rfl⟩
 cases p with
 | VB a to b vs=>
  obtain⟨rfl,rfl,h3⟩:=hPR;obtain⟨g',M',h1,h2,h4,h5,h6⟩:=same b (by rw[hM];exact LG h3);exact⟨g',M',h1,h2,h4,h5,h6,fun _ _ _ e=>by cases e⟩
 | Zq a vs cur=>
  obtain⟨b,rfl,rfl,h3,_⟩:=hPR;obtain⟨g',M',h1,h2,h4,h5,h6⟩:=same b (by rw[hM];exact LG h3);exact⟨g',M',h1,h2,h4,h5,h6,fun _ _ _ e=>by cases e⟩
 | TC a to v=>
  obtain⟨rfl,h3,h4⟩:=hPR;have Xp:=LH h3;obtain⟨E,G'⟩:=Zmu G h4 (by rw[hM];exact Xp);refine⟨_,_,E,G',⟨fun u hu=>?_,fun b s x hv=>?_⟩,by unfold Nf;rw[if_pos rfl];rfl,fun _ _ _=>Iff.rfl,fun _ _ _ e=>by cases e;exact .inr ⟨rfl,rfl,rfl,rfl⟩⟩
  .have hu:u∈n.Zq.l.filter (fun x=>decide (x.Zu<v.Zu))++v :: n.Zq.l.filter (fun x=>decide (v.Zu<x.Zu)):=hu;rcases al.1 hu with hu|hu
   .exact .inl (Uo.has u (a3.1 hu).1)
   .rcases ba.1 hu with rfl|hu
    .exact .inr ⟨rfl,rfl,rfl,rfl⟩
    .exact .inl (Uo.has u (a3.1 hu).1)
  .have Zfd:v∈Jz n.Zq.l v:=by unfold Jz;simp
   rcases hv with hv|⟨_,rfl,rfl,rfl⟩
   .obtain⟨u,u1,u2,u3⟩:=Uo.all b s x hv;by_cases e:u.Zu=v.Zu
    .refine⟨v,Zfd,by rw[<-e];exact u2,?_⟩;have:=G.Z4 _ _ _ _ hv;rw[hM]at this;exact X4 this Xp
    .refine⟨u,?_,u2,u3⟩;show u∈Jz n.Zq.l v;unfold Jz;rcases Int.lt_or_gt_of_ne e with q|q
     .exact al.2 (.inl (a3.2 ⟨u1,by simpa using q⟩))
     .exact al.2 (.inr (ba.2 (.inr (a3.2 ⟨u1,by simpa using q⟩))))
   .exact⟨v,Zfd,rfl,Qu _⟩
theorem NR.rest(N:NR S g M i n){g':Gh}{M':Nat->Yw}(E:Ext i g M g' M')(hP:∀b s x,g'.P b s x↔g.P b s x):(∀s x,Yh n.Zi s=Y x->Jk g' s x)/\(∀(k:Nat) x,n.ZB[k]? = Y x->Jk g' (k:Int) x)/\∀r,n.Zh=Y r->RR g' M' i n r:=by
 refine⟨fun s x e=>(N.Zi s x e).ext E,fun k x e=>(N.ZB k x e).ext E,fun r e=>?_⟩;have R:=N.Zh r e;exact⟨R.ZV,R.may,fun j vs q=>(R.ZI j vs q).ext E,fun q s x h=>R.pn q s x ((hP _ _ _).1 h),fun s x h=>R.pr s x ((hP _ _ _).1 h),fun s x h=>(hP _ _ _).2 (R.safe s x h),fun q s q1 q2 q3=>(R.free q s q1 q2 q3).ext E,fun s K j q1 q2=>by
  obtain⟨x,hx⟩:=R.Y5 s K j q1 q2;exact⟨x,E.v _ _ _ _ hx⟩⟩
theorem cW(T:TR n)(hu:n.up=true){p:LV}(hp:n.Zs=Y p):(ZO n).data=n.data/\(ZO n).YZ=(U n.data)/\Whole n.data (WM p):=by
 obtain⟨d,f,h1,h2,h3,h4⟩:=T.busy hu p hp;have hl:=T.len;have ok:YW n.data n.YZ:=⟨hl,nc,by rw[h2,h1,au];omega⟩
 refine⟨by unfold ZO;simp only[if_pos ok],by unfold ZO;simp only[if_pos ok],?_⟩;rw[h1];exact h3.add h4
theorem Zaj(hi:i<5)(G:GI S g M)(N:NR S g M i n)(hu:n.up=true)(EJ:n.me=i){p:LV}(hp:n.Zs=Y p):∃g' M',SR S g M i (YK (ZO n) p) g' M':=by
 obtain⟨g',M',E,G',A,m',hP,hvt⟩:=Zai G N hu hp;obtain⟨r1,r2,r3⟩:=N.rest E hP;obtain⟨t1,t2,t3⟩:=cW N.tape hu hp;have hPR:=N.Zs p hp;have hl:=N.tape.len;have base:∀(m:Nd),m.up=n.up->m.data=n.data->m.YZ=(U n.data)->m.Zq=WM p->m.Zs=Z->m.Zi=n.Zi->m.ZB=n.ZB->m.Zx=n.Zx->(∀r,m.Zh=Y r->RR g' M' i m r)->NR S g' M' i m:=fun m e1 e2 e3 e4 e5 e6 e7 e8 e9=>by
  have eA:Wh m=WM p:=by rw[JC (by rw[e1];exact hu),e4]
  refine⟨by rw[eA];exact A,by rw[eA];exact m',⟨fun _ _=>⟨by rw[e2,e4];exact t3,by rw[e3,e2]⟩,fun _ q hq=>(by rw[e5]at hq;cases hq),fun h=>(by rw[e1,hu]at h;cases h),by rw[e2];exact hl⟩,fun q hq=>(by rw[e5]at hq;cases hq),by rw[e6];exact r1,by rw[e7];exact r2,by rw[e8];exact N.cV,e9⟩
 have rr:∀(m:Nd),m.Zi=n.Zi->m.ZB=n.ZB->∀r,RR g' M' i n r->RR g' M' i m r:=fun m e1 e2 r R=>⟨R.ZV,R.may,R.ZI,R.pn,R.pr,R.safe,fun q s q1 q2 q3=>R.free q s (by rw[<-e2];exact q1) q2 (by rw[<-e1];exact q3),R.Y5⟩
 have pf:=A.pf G' hi m';refine⟨g',M',E,G',?_⟩
 cases p with
 | VB a to b vs=>
  obtain⟨rfl,rfl,h3⟩:=hPR;show HR S g' M' i ⟨{ ZO n with Zq:=⟨b,n.Zq.l⟩ },[⟨1,n.me,to,b,St,n.Zq.l⟩],[]⟩;refine .one (base { ZO n with Zq:=⟨b,n.Zq.l⟩ } rfl t1 t2 rfl rfl rfl rfl rfl fun r e=>rr { ZO n with Zq:=⟨b,n.Zq.l⟩ } rfl rfl r (r3 r e)) hu ⟨fun _=>?_,fun e=>(by cases e),fun e=>(by cases e),fun e=>(by cases e),fun e=>(by cases e)⟩;show PF g' M' (((n.me:Nat):Int)).toNat b n.Zq.l;rw[a0,EJ];exact pf
 | TC a to v=>
  obtain⟨rfl,h3,h4⟩:=hPR;show HR S g' M' i ⟨{ ZO n with Zq:=⟨v.b,Jz n.Zq.l v⟩ },[⟨3,n.me,to,Jj,v,[]⟩],[]⟩;refine .one (base { ZO n with Zq:=⟨v.b,Jz n.Zq.l v⟩ } rfl t1 t2 rfl rfl rfl rfl rfl fun r e=>rr { ZO n with Zq:=⟨v.b,Jz n.Zq.l v⟩ } rfl rfl r (r3 r e)) hu ⟨fun e=>(by cases e),fun e=>(by cases e),fun _=>?_,fun e=>(by cases e),fun e=>(by cases e)⟩;show g'.V (((n.me:Nat):Int)).toNat v.b v.Zu v.cm;rw[a0,EJ];exact hvt _ _ _ rfl
 | Zq a vs cur=>
  obtain⟨b,rfl,rfl,h3,h4⟩:=hPR;show HR S g' M' i ⟨{ ZO n with Zq:=⟨b,n.Zq.l⟩,Zh:=if cur=true then (ZO n).Zh.map (fun r=>{ r with ZI:=ins r.ZI (ZO n).me n.Zq.l }) else (ZO n).Zh },[],[]⟩;refine .same (base { ZO n with Zq:=⟨b,n.Zq.l⟩,Zh:=if cur=true then (ZO n).Zh.map (fun r=>{ r with ZI:=ins r.ZI (ZO n).me n.Zq.l }) else (ZO n).Zh } rfl t1 t2 rfl rfl rfl rfl rfl fun r e=>?_) hu
  cases hc:cur with
  | false=>
   have e:n.Zh=Y r:=by
    have e:(if cur=true then (ZO n).Zh.map (fun r=>{ r with ZI:=ins r.ZI (ZO n).me n.Zq.l }) else (ZO n).Zh)=Y r:=e;rw[hc]at e;exact e
   refine rr ?m ?a ?b r (r3 r e)
   .rfl
   .rfl
  | true=>
   obtain⟨r0,hr0,tF⟩:=h4 hc;have e:(if cur=true then (ZO n).Zh.map (fun r=>{ r with ZI:=ins r.ZI (ZO n).me n.Zq.l }) else (ZO n).Zh)=Y r:=e;rw[hc,if_pos rfl,show (ZO n).Zh=n.Zh from rfl,hr0]at e;obtain rfl:=Option.some.inj e;have R:=r3 r0 hr0;have R2:RR g' M' i n { r0 with ZI:=ins r0.ZI ((n.me:Nat):Int) n.Zq.l }:=by
    refine⟨R.ZV,R.may,fun j vs q=>?_,R.pn,R.pr,R.safe,R.free,R.Y5⟩;have q:Yh (ins r0.ZI ((n.me:Nat):Int) n.Zq.l) j=Y vs:=q;rw[Xf]at q;split at q
    .rename_i qq
     cases q
     rw[<-qq,a0,EJ];have:PF g' M' i b n.Zq.l:=pf;rw[<-tF]at this;exact this
    .exact R.ZI j vs q
   exact⟨R2.ZV,R2.may,R2.ZI,R2.pn,R2.pr,R2.safe,R2.free,R2.Y5⟩
theorem mP(hi:i<5)(G:GI S g M):∀(k:List YF) (n:Nd),NR S g M i n->n.up=true->n.Zs=Z->Ub C i n->(∀l∈k,Ua C l/\LR S g M l) ->
  HR S g M i (ZA n k)/\Ub C i (ZA n k).n/\(∀l∈(ZA n k).n.Zg,LR S g M l):=by
 intro k
 induction k with
 | nil=>
  intro n N hu hp NI _;unfold ZA;exact⟨.same (N.box []) hu,{ NI with },fun l hl=>by cases hl⟩
 | cons l k ih=>
  intro n N hu hp NI hk;unfold ZA;rw[if_neg (by rw[hp];decide)];have H:=Zae hi G (N.box k) hu hp (NI.Zg k) (hk l Hg).1 (hk l Hg).2;have I:=(LB hi (NI.Zg k) (hk l Hg).1).nd;obtain⟨m,hm⟩:=ZQ ((Zw { n with Zg:=k } l).n);have Hn:=H.n;have Hu:=H.up;rw[<-hm]at Hn Hu I;rw[<-hm];by_cases hpm:m.Zs=Z
  .obtain⟨h1,h2,h3⟩:=ih m Hn Hu hpm I (fun x hx=>hk x (by simp[hx]));refine⟨⟨h1.n,h1.up,fun x hx=>?_⟩,h2,h3⟩;rcases al.1 hx with hx|hx
   .exact H.ls x hx
   .exact h1.ls x hx
  .have hs:m.Zs.isSome=true:=by
    cases q:m.Zs with
    | none=>exact (hpm q).elim
    | some _=>rfl
   have key:(ZA m k).n = { m with Zg:=k }/\(ZA m k).ls=[]:=by
    cases k with
    | nil=>unfold ZA;exact⟨rfl,rfl⟩
    | cons a k=>unfold ZA;rw[if_pos hs];exact⟨rfl,rfl⟩
   rw[key.1,key.2];refine⟨⟨Hn.box k,Hu,fun x hx=>?_⟩,I.Zg k,fun x hx=>(hk x (by
    have hx:x∈k:=hx;simp[hx])).2⟩
   rcases al.1 hx with hx|hx
   .exact H.ls x hx
   .cases hx
end
structure TS(S:Cm->Prop)(g:Gh)(M:Nat->Yw)(i:Nat)(o:Out)(g':Gh)(M':Nat->Yw):Prop where
 e:Ext i g M g' M'
 gi:GI S g' M'
 n:NR S g' M' i o.n
 ls:∀l∈o.ls,LR S g' M' l
 Wp:∀l∈o.n.Zg,LR S g' M' l
section
variable {S:Cm->Prop} {g:Gh} {M:Nat->Yw} {i:Nat} {n:Nd}
theorem TS.Zo(G:GI S g M)(N:NR S g M i n)(hb:∀l∈n.Zg,LR S g M l):TS S g M i ⟨n,[],[]⟩ g M:=⟨Ext.refl _ _ _,G,N,(fun l hl=>by cases hl),hb⟩
theorem ZhE(hi:i<5)(G:GI S g M)(N:NR S g M i n)(hC:(U C)<=100000)(NI:Ub C i n)(hk:∀l∈n.Zg,Ua C l/\LR S g M l):∃g' M',TS S g M i (step n) g' M':=by
 unfold step;split
 .rename_i hu;split
  .rename_i p hp;obtain⟨g',M',E,G',H⟩:=Zaj hi G N hu NI.me hp;have HI:=(Fz hi (Fy NI) (NI.Zs p hp)).2.2.1;refine⟨g',M',E,G',H.n,H.ls,fun l hl=>?_⟩;rw[HI]at hl;exact (hk l hl).2.ext E
  .rename_i hp;obtain⟨H,I,B⟩:=mP hi G n.Zg n N hu hp NI hk;split
   .exact⟨g,M,Ext.refl _ _ _,G,H.n,H.ls,B⟩
   .rename_i Pw;have ZvC:(ZA n n.Zg).n.Zs=Z:=by
     cases q:(ZA n n.Zg).n.Zs with
     | none=>rfl
     | some _=>rw[q]at Pw;exact (Pw rfl).elim
    obtain⟨g',M',E,G',D⟩:=ZhC hi G H.n H.up ZvC I;have HI:=(jo hi hC I).2.2.1;refine⟨g',M',E,G',D.n,fun l hl=>?_,fun l hl=>?_⟩
    .rcases al.1 hl with hl|hl
     .exact (H.ls l hl).ext E
     .exact D.ls l hl
    .have hl:l∈(Yp (ZA n n.Zg).n).n.Zg:=hl;rw[HI]at hl;exact (B l hl).ext E
 .exact⟨g,M,.Zo G N fun l hl=>(hk l hl).2⟩
theorem ZhF(hi:i<5)(G:GI S g M)(N:NR S g M i n)(NI:Ub C i n):NR S g M i (lead n):=by
 unfold lead;split
 .exact N
 .rename_i q;have hu:n.up=true:=by
   cases e:n.up with
   | true=>rfl
   | false=>exact (q (.inl e)).elim
  have eA:=JC hu;have hM:=N.m;rw[eA]at hM;have hr:¬65536<(Jp n).r:=fun e=>q (.inr e);have ZIs:=NI.Zq.rh.1;have hrr:n.Zq.p.r<(Jp n).r/\1<=(Jp n).r:=by
   unfold Jp;simp only;split<;>omega
  have ku:∀s x,¬g.P (Jp n) s x:=fun s x h=>by
   have:=G.Zq _ _ _ h;rw[show (Jp n).n=((n.me:Nat):Int) from rfl,a0,NI.me,hM]at this;exact this (.inl hrr.1)
  have TF:(Jp n).n=i:=by rw[show (Jp n).n=((n.me:Nat):Int) from rfl,NI.me]
  refine⟨N.acc,N.m,⟨fun h1 h2=>N.tape.idle h1 ?_,fun h1 p hp=>?_,fun h=>?_,N.tape.len⟩,fun p hp=>?_,N.Zi,N.ZB,N.cV,fun r e=>?_⟩
  .have h2:X3 n.Zs=Z:=h2
   cases e:n.Zs with
   | none=>rfl
   | some p=>rw[e]at h2;cases p<;>cases h2
  .have hp:X3 n.Zs=Y p:=hp
   cases e:n.Zs with
   | none=>rw[e]at hp;cases hp
   | some p0=>
    obtain⟨d,f,t1,t2,t3,t4⟩:=N.tape.busy hu p0 e;refine⟨d,f,t1,t2,t3,?_⟩;have:WM p=WM p0:=by
     rw[e]at hp
     cases p0<;>cases hp<;>rfl
    rw[this];exact t4
  .have h:n.up=false:=h;rw[hu]at h;cases h
  .have hp:X3 n.Zs=Y p:=hp
   cases e:n.Zs with
   | none=>rw[e]at hp;cases hp
   | some p0=>
    have P:=N.Zs p0 e;rw[e]at hp
    cases p0 with
    | VB a to b vs=>cases hp;exact P
    | TC a to v=>cases hp;exact P
    | Zq a vs cur=>
     cases hp
     obtain⟨b,h1,h2,h3,_⟩:=P;exact⟨b,h1,h2,h3,fun h=>by cases h⟩
  .obtain rfl:=Option.some.inj e;exact⟨TF,⟨⟨hrr.2,by show (Jp n).r<=65536;omega⟩,by show 0<=(Jp n).n/\(Jp n).n<=4;rw[TF];omega⟩,fun j vs h=>(by cases h),fun _ s x=>ku s x,fun s x h=>(ku s x h).elim,fun s x h=>(by cases h),fun h=>(by cases h),fun s K j h=>by cases h⟩
theorem HM{A:UC}{up:Bool}{d:List Nat}{z:Int}(Uo:AR g i (Wh (Yr i up d z A)))(hm:M i=(Wh (Yr i up d z A)).p)(ht:TR (Yr i up d z A)):NR S g M i (Yr i up d z A):=
 ⟨Uo,hm,ht,fun p e=>(by cases e),fun s x e=>(by cases e),fun k x e=>(by simp[Yr]at e),fun x e=>(by cases e),fun r e=>by cases e⟩
theorem EM(i:Nat)(n:Nd)(Zf:Int)(hu:n.up=true):∃d z,XF i n Zf=Yr i false d z JE:=by
 unfold XF;rw[if_pos hu];split
 .exact⟨_,_,rfl⟩
 .exact⟨_,_,rfl⟩
theorem rK(G:GI S g M)(N:NR S g M i n)(hb:∀l∈n.Zg,LR S g M l){Zf:Int}(hk:0<=Zf):∃g' M',TS S g M i ⟨XF i n Zf,[],[]⟩ g' M':=by
 cases hu:n.up with
 | false=>
  have:XF i n Zf=n:=by unfold XF;rw[if_neg (by rw[hu];decide)]
  rw[this];exact⟨g,M,.Zo G N hb⟩
 | true=>
  obtain⟨t1,t2,t3⟩:=jA N.tape hu hk (i:=i);obtain⟨d,z,e⟩:=EM i n Zf hu;rw[e]at t1 t2 t3 ⊢;have eA:=JC hu;rcases t3 with t3|⟨p,hp,t3⟩
  .have Uo:=N.acc;have hm:=N.m;rw[eA,<-t3]at Uo hm;exact⟨g,M,.Zo G (HM Uo hm t1) (fun l hl=>by cases hl)⟩
  .obtain⟨g',M',E,G',A,m',_,_⟩:=Zai G N hu hp;rw[<-t3]at A m';exact⟨g',M',E,G',HM A m' t1,(fun l hl=>by cases hl),fun l hl=>by cases hl⟩
theorem rL(N:NR S g M i n):NR S g M i (started i n):=by
 cases hu:n.up with
 | true=>
  have:started i n=n:=by unfold started;rw[if_pos hu]
  rw[this];exact N
 | false=>
  obtain⟨t1,t2,t3⟩:=jB N.tape hu (i:=i);have Uo:=N.acc;have hm:=N.m;have e2:=JC t2;rw[t3]at e2;rw[<-e2]at Uo hm;have e:∃d z A,started i n=Yr i true d z A:=by
   unfold started;rw[if_neg (by rw[hu];decide)];exact⟨_,_,_,rfl⟩
  obtain⟨d,z,A,e⟩:=e;rw[e]at t1 Uo hm ⊢;exact HM Uo hm t1
end
structure TI(S:Cm->Prop)(g:Gh)(M:Nat->Yw)(w:Wd):Prop where
 gi:GI S g M
 nd:∀i,i<5->NR S g M i (w.Zb i)
 Nw:∀l∈w.Zp,LR S g M l
 Wp:∀i,i<5->∀l∈(w.Zb i).Zg,LR S g M l
section
variable {S:Cm->Prop} {g:Gh} {M:Nat->Yw} {w:Wd}
theorem TI.out(T:TI S g M w){i:Nat}{o:Out}{g':Gh}{M':Nat->Yw}(h:TS S g M i o g' M'):TI S g' M' (w.out i o):=by
 unfold Wd.out;refine⟨h.gi,fun j hj=>?_,fun l hl=>?_,fun j hj l hl=>?_⟩
 .by_cases e:j=i
  .subst e;simpa using h.n
  .simp only[if_neg e];exact (T.nd j hj).ext h.e e
 .rcases al.1 hl with hl|hl
  .exact (T.Nw l hl).ext h.e
  .exact h.ls l hl
 .by_cases e:j=i
  .subst e;simp only[if_true]at hl;exact h.Wp l hl
  .simp only[if_neg e]at hl;exact (T.Wp j hj l hl).ext h.e
theorem jG(T:TI S g M w){l:YF}(hl:LR S g M l)(ht:0<=l.to/\l.to<5):TI S g M (Q3 w l):=by
 unfold Q3;split
 .refine⟨T.gi,fun i hi=>?_,T.Nw,fun i hi x hx=>?_⟩
  .unfold Wd.set;by_cases e:i=l.to.toNat
   .simp only[if_pos e];rw[e];exact (T.nd _ nc).box _
   .simp only[if_neg e];exact T.nd i hi
  .unfold Wd.set at hx;by_cases e:i=l.to.toNat
   .simp only[if_pos e]at hx;rcases al.1 hx with hx|hx
    .exact T.Wp _ nc x hx
    .rw[aI.1 hx];exact hl
   .simp only[if_neg e]at hx;exact T.Wp i hi x hx
 .exact T
theorem ZdQ:∀(ls:List YF) (w:Wd),TI S g M w->(∀l∈ls,LR S g M l/\0<=l.to/\l.to<5)->TI S g M (ls.foldl Q3 w):=by
 intro ls
 induction ls with
 | nil=>intro w T _;exact T
 | cons l ls ih=>intro w T h;exact ih _ (jG T (h l Hg).1 (h l Hg).2) (fun x hx=>h x (by simp[hx]))
theorem TI.Zfe(T:TI S g M w){fl:List YF}(h:∀l∈fl,l∈w.Zp):TI S g M { w with Zp:=fl }:=⟨T.gi,T.nd,fun l hl=>T.Nw l (h l hl),T.Wp⟩
theorem Zmw(hC:(U C)<=100000){k:Nat}(W:WI C k w)(T:TI S g M w)(a:Ac)(hi:a.ZV<5)(hk:0<=a.Zf)(hS:∀now:Nat,a.Z7=1->YP a.data now=0->S (Xo a.data now)):
  ∃g' M',(∀j b s x,g.V j b s x->g'.V j b s x)/\TI S g' M' (act w a):=by
 have same:∀{v:Wd},TI S g M v->∃g' M',(∀j b s x,g.V j b s x->g'.V j b s x)/\TI S g' M' v:=fun h=>⟨g,M,fun _ _ _ _ h=>h,h⟩
 have N:=T.nd a.ZV hi;have NI:=W.nd a.ZV hi;unfold act;split
 .rename_i hk1;refine same ?_;unfold JN;split
  .split
   .exact⟨T.gi,T.nd,T.Nw,T.Wp⟩
   .rename_i q;split
    .exact⟨T.gi,T.nd,T.Nw,T.Wp⟩
    .rw[Sh];have hx:=hS _ hk1 (by simpa using q);obtain⟨A,_,_⟩:=Zfb N hx;have s1:(add (w.Zb a.ZV) (Xo a.data (w.Zb a.ZV).ZB.length)).Zg=(w.Zb a.ZV).Zg:=by unfold add;split<;>rfl
     refine T.out ⟨Ext.refl _ _ _,T.gi,?_,(fun l hl=>by cases hl),fun l hl=>?_⟩
     .unfold Rc;simp only;split
      .exact A
      .exact⟨A.acc,A.m,⟨A.tape.idle,A.tape.busy,A.tape.down,A.tape.len⟩,fun p e=>(by have:=A.Zs p e;cases p<;>exact this),A.Zi,A.ZB,A.cV,fun r e=>by
        have R:=A.Zh r e;exact⟨R.ZV,R.may,R.ZI,R.pn,R.pr,R.safe,R.free,R.Y5⟩⟩
     .have s2:(Rc (add (w.Zb a.ZV) (Xo a.data (w.Zb a.ZV).ZB.length)) (Xo a.data (w.Zb a.ZV).ZB.length)).Zg=(w.Zb a.ZV).Zg:=by
       unfold Rc;split<;>exact s1
      exact T.Wp _ hi l (by rw[<-s2];exact hl)
  .exact T
 split
 .refine same ?_;rw[Sh];refine T.out ⟨Ext.refl _ _ _,T.gi,ZhF hi T.gi N NI,(fun l hl=>by cases hl),fun l hl=>?_⟩;have hl:l∈(lead (w.Zb a.ZV)).Zg:=hl;rw[(zN NI).2.1]at hl;exact T.Wp _ hi l hl
 split
 .obtain⟨g',M',h⟩:=ZhE hi T.gi N hC NI (fun l hl=>⟨W.Wp _ hi l hl,T.Wp _ hi l hl⟩);exact⟨g',M',h.e.v,T.out h⟩
 split
 .refine same ?_;unfold pick;split
  .exact T
  .rename_i l hl;have lV:l∈w.Zp:=List.mem_of_getElem? hl;have T2:=T.Zfe (fl:=w.Zp.eraseIdx (a.at'%w.Zp.length)) (fun x hx=>List.mem_of_mem_eraseIdx hx);have ht:=(W.Nw l lV).to;split
   .split
    .exact jG T (T.Nw l lV) ht
    .exact jG T2 (T.Nw l lV) ht
   .split
    .exact T
    .exact T2
 split
 .exact same (ZdQ _ _ (T.Zfe (fl:=[]) (fun l hl=>by cases hl)) (fun l hl=>⟨T.Nw l hl,(W.Nw l hl).to⟩))
 split
 .obtain⟨g',M',h⟩:=rK T.gi N (T.Wp _ hi) hk;rw[Sh];exact⟨g',M',h.e.v,T.out h⟩
 .refine same ?_;rw[Sh];refine T.out ⟨Ext.refl _ _ _,T.gi,rL N,(fun l hl=>by cases hl),fun l hl=>?_⟩;rcases (DR NI (i:=a.ZV)).2 with⟨q,_⟩|q
  .have hl:l∈(started a.ZV (w.Zb a.ZV)).Zg:=hl;rw[q]at hl;cases hl
  .have hl:l∈(started a.ZV (w.Zb a.ZV)).Zg:=hl;rw[q]at hl;exact T.Wp _ hi l hl
def gh0:Gh:=⟨fun _ _ _ _=>False,fun _ _ _=>False⟩
theorem FF:TI S gh0 (fun _=>Jj) QL:=by
 refine⟨⟨fun _ _ _ _ h=>h.elim,fun _ _ _ _ h=>h.elim,fun _ _ _ _ h=>h.elim,fun _ _ _ h=>h.elim,fun _ _ _ h=>h.elim,fun _ _ _ h=>h.elim,fun _ _ _ h=>h.elim⟩,fun i hi=>?_,(fun l hl=>by cases hl),fun i hi l hl=>by cases hl⟩;exact HM ⟨fun v hv=>(by cases hv),fun _ _ _ h=>h.elim⟩ rfl (Zac i)
def cX(S:Cm->Prop)(C:List Cm)(a:Ac):Prop:=(a.ZV<5/\Wg a.data∈C)/\0<=a.Zf/\∀now:Nat,a.Z7=1->YP a.data now=0->S (Xo a.data now)
theorem cY(hC:(U C)<=100000):∀(l:List Ac) (k:Nat) (w:Wd) (g:Gh) (M:Nat->Yw),WI C k w->TI S g M w->(∀a∈l,cX S C a) ->
  ∃g' M',(∀j b s x,g.V j b s x->g'.V j b s x)/\TI S g' M' (l.foldl act w)/\WI C (k+(U l)) (l.foldl act w):=by
 intro l
 induction l with
 | nil=>intro k w g M W T _;exact⟨g,M,fun _ _ _ _ h=>h,T,W⟩
 | cons a l ih=>
  intro k w g M W T hl;obtain⟨h1,h2,h3⟩:=hl a Hg;obtain⟨g1,M1,v1,T1⟩:=Zmw hC W T a h1.1 h2 h3;obtain⟨g2,M2,v2,T2,W2⟩:=ih (k+1) (act w a) g1 M1 (Ze9 hC W a h1.1 h1.2) T1 (fun x hx=>hl x (by simp[hx]));refine⟨g2,M2,fun _ _ _ _ h=>v2 _ _ _ _ (v1 _ _ _ _ h),T2,?_⟩;rw[List.length_cons,show k+((U l)+1)=k+1+(U l) by omega];exact W2
theorem FG(hC:(U C)<=100000)(l:List Ac)(hl:∀a∈l,cX S C a)(p q:Nat)(zv:p<=q)(i j:Nat)(hi:i<5)(hj:j<5)(s:Nat)(x y:Cm)(hx:((TL (l.take p)).Zb i).ZB[s]? = Y x)(hy:((TL (l.take q)).Zb j).ZB[s]? = Y y):x=y:=by
 obtain⟨g1,M1,_,T1,W1⟩:=cY hC (l.take p) 0 QL gh0 (fun _=>Jj) (Oo C) FF (fun a ha=>hl a (bo ha));have e:l.take q=l.take p++(l.take q).drop p:=by
  have:=(List.take_append_drop p (l.take q)).symm
  rwa [List.take_take,Nat.min_eq_left zv]at this
 obtain⟨g2,M2,v2,T2,_⟩:=cY hC ((l.take q).drop p) _ (TL (l.take p)) g1 M1 W1 T1 (fun a ha=>hl a (bo (List.mem_of_mem_drop ha)));have e2:TL (l.take q)=((l.take q).drop p).foldl act (TL (l.take p)):=by
  conv=>lhs;rw[e]
  unfold TL;rw[bw]
 rw[<-e2]at T2;have c1:=(T1.nd i hi).ZB s x hx;have c2:=(T2.nd j hj).ZB s y hy;obtain⟨Q,b,hQ,hv⟩:=c1;exact Jk.one T2.gi ⟨Q,b,hQ,fun k hk=>v2 _ _ _ _ (hv k hk)⟩ c2
theorem Zak(hC:(U C)<=100000)(l:List Ac)(hl:∀a∈l,cX S C a)(i:Nat)(hi:i<5)(x:Cm)(hx:x∈((TL l).Zb i).ZB):x=IB\/S x:=by
 obtain⟨g1,M1,_,T1,W1⟩:=cY hC l 0 QL gh0 (fun _=>Jj) (Oo C) FF hl;obtain⟨s,hs,rfl⟩:=List.mem_iff_getElem.1 hx;have c1:=(T1.nd i hi).ZB s _ (a4 hs);obtain⟨b,hb⟩:=c1.ZW T1.gi;exact T1.gi.cmd _ _ _ hb
end
set_option maxRecDepth 100000
theorem cZ(h:∀x∈l,x.err=0)(hl:(U l)<=100000):SA l=0:=by
 unfold SA;rw[if_neg nc];exact On h
theorem jH{A:List Raw}(hA:∀x∈A,x.err=0)(hl:(U A)<=100000)(p q i j:Nat)(hi:i<5)(hj:j<5)(s:Nat)(x y:Cm)(hx:((Js (A.take p)).Zb i).ZB[s]? = Y x)(hy:((Js (A.take q)).Zb j).ZB[s]? = Y y):x=y:=by
 obtain⟨rE,jx⟩:=ZQ (A.map Raw.ac);obtain⟨C,hC⟩:∃C,C=A.map fun x=>Wg x.data:=⟨_,rfl⟩
 have tV:(U C)<=100000:=by rw[hC,a5];exact hl
 have ok:∀a∈rE,cX (fun _=>True) C a:=fun a ha=>by
  rw[jx]at ha;obtain⟨z,hz,rfl⟩:=aU.1 ha;obtain⟨_,q2,_,q4,_⟩:=FD (hA z hz);refine⟨⟨by unfold Raw.ac;simp only;omega,?_⟩,q4.1,fun _ _ _=>trivial⟩;rw[hC];exact aU.2 ⟨z,hz,rfl⟩
 have e:∀p,Js (A.take p)=TL (rE.take p):=fun p=>by unfold Js;rw[List.map_take,jx]
 rw[e]at hx hy;rcases Nat.le_total p q with h|h
 .exact FG tV rE ok p q h i j hi hj s x y hx hy
 .exact (FG tV rE ok q p h j i hj hi s y x hy hx).symm
theorem ZdR{A:List Raw}(hA:∀x∈A,x.err=0)(hl:(U A)<=100000)(i:Nat)(hi:i<5):((Js A).Zb i).ZB.length<=40:=by
 obtain⟨C,hC⟩:∃C,C=A.map fun x=>Wg x.data:=⟨_,rfl⟩
 have tV:(U C)<=100000:=by rw[hC,a5];exact hl
 have:=zW tV (A.map Raw.ac) 0 QL (Oo C) (fun a ha=>by
  obtain⟨z,hz,rfl⟩:=aU.1 ha;obtain⟨_,q2,_,_,_⟩:=FD (hA z hz);refine⟨by unfold Raw.ac;simp only;omega,?_⟩;rw[hC];exact aU.2 ⟨z,hz,rfl⟩)
 exact (this.nd i hi).Kz
def JD(h0:Hp)(o:Ow)(g:Hp)(v:a1)(l:List Raw):Prop:=
 Kp (fun t=>t=.ZB 100) LC h0 o g/\∃ys,Xh ys=l/\Xz o (.ZB 100) 36 5 g v (U ys) (ZT Wq ys)/\∀y∈ys,Pv o g y.2 y.1.data
theorem JD.nil(h0:Hp):JD h0 LC h0 (aw Z 0 0) []:=⟨Kp.refl (FE h0) _,[],rfl,Xz.nil _ _ _ _ _,fun y hy=>by cases hy⟩
theorem JD.ZP{h0:Hp}{o:Ow}{g:Hp}{v:a1}(A:JD h0 o g v l):∃p c,v=aw p (U l) c/\(U l)<=c:=by
 obtain⟨_,ys,hr,O,_⟩:=A;obtain⟨p,c,h,hc⟩:=O.ZP;have:(U ys)=(U l):=by rw[<-hr];unfold Xh;simp
 rw[this]at h hc;exact⟨p,c,h,hc⟩
theorem JD.done{h0:Hp}{o:Ow}{g:Hp}{v:a1}(A:JD h0 o g v l):Zk h0.size h0 g/\Ph v/\∃ys,Xh ys=l/\Ts Wq 5 g v ys/\∀y∈ys,Pv LC g y.2 y.1.data:=by
 obtain⟨p,c,hv,hc⟩:=A.ZP;obtain⟨K,ys,hr,O,I⟩:=A;exact⟨jt K,by rw[hv];exact hc,ys,hr,⟨O.sl⟩,fun y hy=>⟨⟨(I y hy).1.sl,(I y hy).1.fits,fun b hb=>⟨((I y hy).1.free b hb).1,rfl⟩⟩,(I y hy).2⟩⟩
theorem Zal:∀(xs:List (Raw × a1)),(∀x∈xs,∃p n c,x.2=aw p n c)->(ZT Wq xs).all YC=true:=by
 intro xs
 induction xs with
 | nil=>intro _;rfl
 | cons x xs ih=>
  intro h;obtain⟨p,n,c,e⟩:=h x Hg;have h2:=ih (fun y hy=>h y (by simp[hy]));rw[show ZT Wq (x :: xs)=Wq x++ZT Wq xs from rfl,List.all_append,h2];unfold Wq;rw[e];rfl
section
variable {T:World} {K:a1->Hp->Prop} {ty:TypeId} {cb:Array Bool}
theorem JD.PP{h0:Hp}{o:Ow}{g:Hp}{v:a1}(A:JD h0 o g v l)(hl:(U l)<=1000000000)(X:Raw)(q:Option Addr)(cq:Nat)(im:Pv o g (aw q (U X.data) cq) X.data)(H:∀v' o' g',JD h0 o' g' v' (l++[X])->Kp Sy o g o' g'->K v' g'):Pm bc T .append #[27,27] ty cb [v,aw (Y ⟨g.size,0,Z⟩) 1 1] K (g.push (a8 #[am aa X.k,am aa X.n,am aa X.a,am aa X.b,aw q (U X.data) cq] 36)):=by
 obtain⟨K1,ys,hr,O,I⟩:=A;have yl:(U ys)=(U l):=by rw[<-hr];unfold Xh;simp
 obtain⟨g6,Ly⟩:=ZQ (g.push (a8 (Fv X.k X.n X.a X.b (aw q (U X.data) cq)).toArray 36):Hp);have k6:Kp Wy o g o g6:=by rw[Ly];exact Yt K1.Yn _
 have x6:g6[g.size]? = Y (a8 (Fv X.k X.n X.a X.b (aw q (U X.data) cq)).toArray 36):=by rw[Ly];exact Zc
 have src:Sl 5 g6 (aw (Y ⟨g.size,0,Z⟩) 1 1) 1 (Fv X.k X.n X.a X.b (aw q (U X.data) cq)):=⟨_,1,rfl,rfl,fun _=>⟨g.size,0,rfl,fun i hi=>by
  rw[Zn x6,YR,Nat.zero_add];exact a4 hi⟩⟩
 have O6:=O.Zf k6 (fun q=>q);show Pm bc T .append #[27,27] ty cb [v,aw (Y ⟨g.size,0,Z⟩) 1 1] K (g.push (a8 (Fv X.k X.n X.a X.b (aw q (U X.data) cq)).toArray 36));rw[<-Ly];refine QV (E:=36) (n:=5) (bytes:=56) (k:=1) Zey bx ZjZ Zj1 rfl Zj0 O6 k6.Yn src rfl nc nc ?_;intro v7 o7 g7 O7 k7 _;have k7:Kp (fun u=>u=.ZB 100) o g6 o7 g7:=k7;refine H v7 o7 g7 ⟨(K1.trans (Z1 k6)).trans k7,ys++[(X,aw q (U X.data) cq)],?_,?_,fun y hy=>?_⟩ (YQ ((Z1 k6).trans k7))
 .rw[<-hr];unfold Xh;simp only[bb,List.map_cons,List.map_nil]
 .have e:ZT Wq (ys++[(X,Value.slice q (U X.data) cq)])=ZT Wq ys++Fv X.k X.n X.a X.b (aw q (U X.data) cq):=by rw[Y8,Te];rfl
  rw[e,au];exact O7
 .rcases al.1 hy with hy|hy
  .exact ((I y hy).Zf k6).Zf k7
  .rw[aI.1 hy];exact (im.Zf k6).Zf k7
theorem JD.add{h0:Hp}{o:Ow}{g:Hp}{v:a1}(A:JD h0 o g v l)(hl:(U l)<=1000000000)(k n a b:Int)(H:∀v' o' g',JD h0 o' g' v' (l++[⟨k,n,a,b,[]⟩])->K v' g'):Pm bc T .append #[27,27] ty cb [v,aw (Y ⟨g.size,0,Z⟩) 1 1] K (g.push (a8 #[am aa k,am aa n,am aa a,am aa b,aw Z 0 0] 36)):=
 A.PP hl ⟨k,n,a,b,[]⟩ Z 0 ⟨Im.nil _ 1 _ Z,fun x hx=>by cases hx⟩ (fun v' o' g' A' _=>H v' o' g' A')
theorem JD.Zam{h0:Hp}{o:Ow}{g:Hp}{v:a1}(A:JD h0 o g v l)(hl:(U l)<=1000000000){u:a1}{xs:List (Raw × a1)}(hu:Ts Wq 5 g u xs)(hx:∀x∈xs,Pv LC h0 x.2 x.1.data)(Bd:(U xs)<=1000000000)(H:∀v' o' g',JD h0 o' g' v' (l++Xh xs)->K v' g'):Pm bc T .append #[27,27] ty cb [v,u] K g:=by
 obtain⟨K1,ys,hr,O,I⟩:=A;have yl:(U ys)=(U l):=by rw[<-hr];unfold Xh;simp
 refine QV (E:=36) (n:=5) (bytes:=56) (k:=(U xs)) Zey bx ZjZ Zj1 rfl Zj0 O K1.Yn hu.sl ?_ nc nc ?_
 .exact Zal xs (fun x hxm=>by
   obtain⟨p,c,e⟩:=(hx x hxm).1.ZP;exact⟨p,_,c,e⟩)
 intro v7 o7 g7 O7 k7 _;have k7:Kp (fun u=>u=.ZB 100) o g o7 g7:=k7;refine H v7 o7 g7 ⟨K1.trans k7,ys++xs,?_,?_,fun y hy=>?_⟩
 .rw[<-hr];unfold Xh;rw[bb]
 .rw[Y8,au];exact O7
 .rcases al.1 hy with hy|hy
  .exact (I y hy).Zf k7
  .exact (hx y hy).Zf (K1.trans k7)
end
def Vk(n m:Nd):Prop:=m.up=n.up/\m.me=n.me/\∃e,m.ZB=n.ZB++e
theorem Vk.refl(n:Nd):Vk n n:=⟨rfl,rfl,[],Hg⟩
theorem Vk.trans{a b c:Nd}(h1:Vk a b)(h2:Vk b c):Vk a c:=by
 obtain⟨u1,m1,e1,l1⟩:=h1;obtain⟨u2,m2,e2,l2⟩:=h2;exact⟨by rw[u2,u1],by rw[m2,m1],e1++e2,by rw[l2,l1,a2]⟩
theorem Vk.same{m:Nd}(h1:m.up=n.up)(h2:m.me=n.me)(h3:m.ZB=n.ZB):Vk n m:=⟨h1,h2,[],by rw[h3];simp⟩
theorem BF:∀(k:Nat) (n:Nd),Vk n (Yg k n).1:=by
 intro k
 induction k with
 | zero=>intro n;exact .refl n
 | succ k ih=>
  intro n;unfold Yg;split
  .exact .refl n
  .rename_i x _;exact Vk.trans (b:=JU n x) ⟨rfl,rfl,[x],rfl⟩ (ih _)
theorem FH(n:Nd)(s:Int)(x:Cm):Vk n (Jg n s x).n:=by
 unfold Jg;exact Vk.trans (b:=Jf n s x) (.same rfl rfl rfl) (BF _ _)
theorem Mj(n:Nd)(l:YF):Vk n (Xs n l):=by
 unfold Xs;split
 .exact .same rfl rfl rfl
 .exact .refl n
theorem Zan(n:Nd)(x:Cm):Vk n (add n x):=by
 unfold add;split
 .exact .refl n
 .exact .same rfl rfl rfl
theorem da(n:Nd)(l:YF):Vk n (Zw n l).n:=by
 unfold Zw;split
 .unfold YB
  repeat' split
  all_goals exact .same rfl rfl rfl
 split
 .unfold Yl;split
  .exact .refl n
  .rename_i r _;split
   .split
    .exact .same rfl rfl rfl
    .exact .refl n
   .split
    .exact .refl n
    .split
     .exact Vk.trans (b:=Tq n r l) (.same rfl rfl rfl) (FH _ _ _)
     .exact .same rfl rfl rfl
 split
 .unfold asked
  repeat' split
  all_goals exact .same rfl rfl rfl
 split
 .exact Zan n _
 split
 .unfold Qp;split
  .exact Mj n l
  .exact Mj n l
 split
 .exact FH n _ _
 .exact Mj n l
theorem FI:∀(k:List YF) (n:Nd),Vk n (ZA n k).n:=by
 intro k
 induction k with
 | nil=>intro n;unfold ZA;exact .same rfl rfl rfl
 | cons l k ih=>
  intro n;unfold ZA;split
  .exact .same rfl rfl rfl
  .exact Vk.trans (b:={ n with Zg:=k }) (.same rfl rfl rfl) (Vk.trans (da _ l) (ih _))
theorem rM(n:Nd)(r:Xw):Vk n (JM n r).n:=by
 unfold JM;split
 .split
  .exact .refl n
  .exact .same rfl rfl rfl
 .split
  .exact .refl n
  .exact .same rfl rfl rfl
theorem jI(n:Nd):Vk n (Zo n):=by
 unfold Zo;split
 .split
  .exact .same rfl rfl rfl
  .exact .refl n
 .exact .refl n
theorem jJ(n:Nd):Vk n (Z9 n).n:=by
 unfold Z9;split
 .exact rM _ _
 .split
  .exact .refl n
  .exact .refl n
theorem rN(n:Nd):Vk n (Yp n).n:=by
 have h:=Vk.trans (jI n) (jJ (Zo n));unfold Yp;split
 .exact h
 .exact h.trans (.same rfl rfl rfl)
theorem db(n:Nd)(p:LV):Vk n (YK (ZO n) p).n:=by
 cases p<;>exact .same rfl rfl rfl
theorem KF(n:Nd):Vk n (step n).n:=by
 unfold step;split
 .split
  .exact db n _
  .split
   .exact FI _ n
   .exact (FI _ n).trans (rN _)
 .exact .refl n
def Still(n m:Nd):Prop:=m.up=n.up/\m.me=n.me/\m.ZB=n.ZB
theorem rO(w:Wd)(l:YF):(Q3 w l).ZE=w.ZE/\(Q3 w l).Yv=w.Yv/\(Q3 w l).Zp=w.Zp:=by
 unfold Q3;split
 .exact⟨rfl,rfl,rfl⟩
 .exact⟨rfl,rfl,rfl⟩
theorem jK:∀(ls:List YF) (w:Wd),(ls.foldl Q3 w).ZE=w.ZE/\(ls.foldl Q3 w).Yv=w.Yv/\(ls.foldl Q3 w).Zp=w.Zp:=by
 intro ls
 induction ls with
 | nil=>intro w;exact⟨rfl,rfl,rfl⟩
 | cons l ls ih=>
  intro w;obtain⟨h1,h2,h3⟩:=ih (Q3 w l);obtain⟨k1,k2,k3⟩:=rO w l;exact⟨by rw[a6,h1,k1],by rw[a6,h2,k2],by rw[a6,h3,k3]⟩
theorem Uc(w:Wd)(k:Nat)(n:Nd)(i:Nat):((w.set k n).Zb i)=if i=k then n else w.Zb i:=rfl
theorem FJ(w:Wd)(k:Nat)(o:Out)(i:Nat):((w.out k o).Zb i)=if i=k then o.n else w.Zb i:=rfl
def Two(x y:Nat)(k:Int):Prop:=k=x\/k=y
section
variable {x y:Nat} {n:Nd}
theorem jL(n:Nd):(Yp n).n.Zg=n.Zg:=by
 have h1:(Zo n).Zg=n.Zg:=by
  unfold Zo
  repeat' split
  all_goals rfl
 have h2:∀m:Nd,(Z9 m).n.Zg=m.Zg:=fun m=>by
  unfold Z9 JM
  repeat' split
  all_goals rfl
 unfold Yp;split
 .rw[h2,h1]
 .show (Z9 (Zo n)).n.Zg=n.Zg;rw[h2,h1]
theorem LJ(n:Nd)(p:LV):(YK (ZO n) p).n.Zg=n.Zg:=by cases p<;>rfl
end
section
variable {x y:Nat} {w:Wd}
end
theorem jM{tc tr tu k c s n v now BG:Int}(h:S7 tc tr tu k c s n v BG=0)(h0:0<=now)(hn:now<=BG):S7 tc tr tu k c s n v now=0:=by
 unfold S7 at *;by_cases c1:JG tc tr tu≠0
 .rw[if_pos c1]at h;exact (c1 h).elim
 rw[if_neg c1]at h ⊢;by_cases c2:YE k c s n v≠0
 .rw[if_pos c2]at h;exact (c2 h).elim
 rw[if_neg c2]at h ⊢;by_cases c3:¬Kk k.toNat tr.toNat\/tc≠c
 .rw[if_pos c3]at h;cases h
 rw[if_neg c3]at h ⊢;by_cases c4:BG<0\/tu<BG
 .rw[if_pos c4]at h;cases h
 rw[if_neg nc]
structure Zmx(rc:List Nat):Prop where
 len:(U rc)≠0
 key:Qd (rc.getD 0 0:Nat)=0
 take:U6 (Uz (rc.getD 0 0)) 0 0 JK (rc.drop 1)=0
 plain:(Ja rc).length=42
 prv:QJ U9 ((Ja rc).take 22)=0
 dec:Qr ((Ja rc).drop 22)=0
 Zq:¬(Xv ((Ja rc).drop 22) 0≠0/\Xv ((Ja rc).drop 22) 1≠(rc.getD 0 0:Nat))
theorem HN(rc:List Nat)(now:Int):YP rc now=0↔Zmx rc/\Bt (Ja rc) now=0:=by
 unfold YP DB bI bH bF ma
 constructor
 .intro h;by_cases c1:(U rc)=0
  .rw[if_pos c1]at h;cases h
  rw[if_neg c1]at h;by_cases c2:Qd (rc.getD 0 0:Nat)≠0
  .rw[if_pos c2]at h;exact (c2 h).elim
  rw[if_neg c2]at h;by_cases c3:U6 (Uz (rc.getD 0 0)) 0 0 JK (rc.drop 1)≠0
  .rw[if_pos c3]at h;exact (c3 h).elim
  rw[if_neg c3]at h;by_cases c4:(Ja rc).length≠42
  .rw[if_pos c4]at h;cases h
  rw[if_neg c4]at h;by_cases c5:QJ U9 ((Ja rc).take 22)≠0
  .rw[if_pos c5]at h;exact (c5 h).elim
  rw[if_neg c5]at h;by_cases c6:Qr ((Ja rc).drop 22)≠0
  .rw[if_pos c6]at h;exact (c6 h).elim
  rw[if_neg c6]at h;by_cases c7:Xv ((Ja rc).drop 22) 0≠0/\Xv ((Ja rc).drop 22) 1≠(rc.getD 0 0:Nat)
  .rw[if_pos c7]at h;cases h
  rw[if_neg c7]at h;exact⟨⟨c1,nc,nc,nc,nc,nc,c7⟩,h⟩
 .rintro⟨o,h⟩;rw[if_neg o.len,if_neg (fun q=>q o.key),if_neg (fun q=>q o.take),if_neg (fun q=>q o.plain),if_neg (fun q=>q o.prv),if_neg (fun q=>q o.dec),if_neg o.Zq];exact h
theorem IN{d:List Nat}{now BG:Int}(h:YP d BG=0)(h0:0<=now)(hn:now<=BG):YP d now=0/\Xo d now=Xo d BG:=by
 have h1:YP d now=0:=by
  obtain⟨o,a⟩:=(HN d BG).1 h;exact (HN d now).2 ⟨o,jM a h0 hn⟩
 refine⟨h1,?_⟩;unfold Xo;rw[if_pos h,if_pos h1]
theorem Jl{cs:List a1}{j:Nat}(v:a1)(i:Nat)(h:i≠j):ci (cs.set j v) i=ci cs i:=by
 unfold ci;rw[YR,YR,List.getElem?_set_ne (fun e=>h e.symm)]
theorem ZdS{cs:List a1}(h:XA cs=false):(∀i,i<8->NW cs i=false)/\∀i,i<8->NX cs i=false:=by
 refine⟨fun i hi=>?_,fun i hi=>?_⟩
 .cases e:NW cs i with
  | false=>rfl
  | true=>rw[Qh i hi (.inl e)]at h;cases h
 .cases e:NX cs i with
  | false=>rfl
  | true=>rw[Qh i hi (.inr e)]at h;cases h
theorem D0{cs:List a1}(hl:(U cs)=40)(hb:XA cs=false)(k c s n v:Nat)(hk:k<=3)(hc:c<=7)(hs:s<=1048576)(hn:n<=7)(hv:v<=1073741824):XA (Ql cs k c s n v).cells=false:=by
 obtain⟨h1,h2⟩:=ZdS hb;unfold Ql;split
 .exact hb
 split
 .exact hb
 split
 .exact hb
 split
 .exact hb
 have hal:(UH cs k c n v).1.length=40:=by rw[Iz,hl]
 have hai:∀j,8<=j->j<32->ci (UH cs k c n v).1 j=ci cs j:=fun j q1 q2=>Bn cs k c n v hn j q1 q2;have hav:∀j,j<8->NW (UH cs k c n v).1 j=false:=fun j hj=>by
  unfold UH;split
  .by_cases e:j=n
   .unfold NW;rw[e,UU nc];simp;omega
   .have:=h1 j hj;unfold NW at this ⊢;rw[Jl _ _ e];exact this
  .split
   .exact h1 j hj
   .have:=h1 j hj;unfold NW at this ⊢;rw[Jl _ _ nc];exact this
 obtain⟨A,hA⟩:=ZQ ((UH cs k c n v).1);rw[<-hA]at hal hai hav ⊢;refine MU (fun i hi=>?_) (fun i hi=>?_)
 .have:=hav i hi;unfold NW at this ⊢;rw[Jl _ _ nc,Jl _ _ nc,Jl _ _ nc];exact this
 .have:=h2 i hi;unfold NX at this ⊢;by_cases e:i=c
  .subst e;have e1:ci ((((A.set (8+i) (am aa ((s:Int)+1))).set (16+i*2) (am aa 0)).set (16+i*2+1) (am aa (UH cs k i n v).2))) (8+i)=(s:Int)+1:=by
    rw[Jl _ _ nc,Jl _ _ nc,UU nc]
   rw[e1];refine decide_eq_false ?_;omega
  .rw[Jl _ _ nc,Jl _ _ nc,Jl _ _ nc,Jl _ _ nc,Jl _ _ nc,Jl _ _ nc,Jl _ _ nc,Jl _ _ nc,Jl _ _ nc,hai _ nc nc,hai _ nc nc,hai _ nc nc];exact this
theorem jN:∀(l:List Cm) (st:bi),G7 st->XA st.cs=false->(∀x∈l,x.err=0)->(Rb st l).1=0:=by
 intro l
 induction l with
 | nil=>intro st _ _ _;rfl
 | cons x l ih=>
  intro st ok hb hl;have he:YE x.k x.c x.s x.n x.v=0:=hl x Hg;have h0:U7 st.cs x=0:=by
   unfold U7 Nu;rw[hb,if_neg aaa];exact he
  rw[Ls h0];refine ih _ (HH ok h0).1 ?_ (fun y hy=>hl y (by simp[hy]));obtain⟨k,c,s,n,v,e1,e2,e3,e4,e5,y1,y2,y3,y4,y5⟩:=Xb he;show XA (X1 st.cs x).cells=false;unfold X1;rw[e1,e2,e3,e4,e5];exact D0 (YD ok.fit) hb _ _ _ _ _ y1 y2 y3 y4 y5
theorem IP{l:List Cm}(h:∀x∈l,x.err=0):RL l=0:=jN l I9 HG rfl h
theorem Zao(key:List Nat)(k:Nat)(ZD data:List Nat):U3 key k ZD (U3 key k ZD data)=data:=by
 have hl:(U3 key k ZD data).length=(U data):=Ju _ _ _ _;refine List.ext_getElem (by rw[Ju,hl]) fun i h1 h2=>?_;have e:(U3 key k ZD data).getD i 0=ao key k ZD data i:=by
  unfold U3;rw[bh,bk,bp h2];rfl
 have e2:data.getD i 0=data[i]:=by rw[bh,a4 h2];rfl
 have e3:(U3 key k ZD (U3 key k ZD data))[i]=ao key k ZD (U3 key k ZD data) i:=by
  have:(U3 key k ZD (U3 key k ZD data))[i]? = Y (ao key k ZD (U3 key k ZD data) i):=by
   conv=>lhs;unfold U3
   rw[bk];have:(br (List.map (ao key k ZD data) (br (U data))).length)[i]? = Y i:=by
    rw[bp (by rw[a5,List.length_range];exact h2)]
   rw[this];rfl
  rw[a4 h1]at this;exact Option.some.inj this
 rw[e3];unfold ao at e ⊢;rw[e,e2,Nat.xor_assoc,Nat.xor_self,Nat.xor_zero]
theorem D1(n:Nat)(hn:n<4294967296)(l:List Nat):Vv (YH n++l)=n:=by
 unfold Vv YH;simp only[bA,List.getD_cons_zero,List.getD_cons_succ];omega
theorem rP(kl:List Nat)(n:Nat)(hn:n<4294967296)(plain:List Nat):Dv kl (Tp kl n plain)=plain:=by
 have hd:(Tp kl n plain).drop 4=S6 kl (XL (YH n)) (YH n) plain:=by
  unfold Tp;rw[List.drop_append_of_le_length (by show 4<=4;omega),show (YH n).drop 4=[] from rfl,be]
 unfold Dv;rw[hd,show Vv (Tp kl n plain)=n from D1 n hn _];unfold lK S6;have ht:(QA kl (XL (YH n)) (YH n) (U3 kl 1 (XL (YH n)) plain)).length=16:=Sb _ _;rw[au,ht,Nat.add_sub_cancel,List.take_left];exact Zao _ _ _ _
theorem rQ(key:List Nat)(c r u:Nat)(hu:u<4294967296):XB (Ra key c r u) 2=u:=by
 have:XB (Ra key c r u) 2=u/16777216%256*16777216+u/65536%256*65536+u/256%256*256+u%256:=by simp[XB,Ra,aX,Xl]
 rw[this];exact Rl hu
def WN(n:Nat):Raw:=⟨9,n,0,0,[]⟩
def Wi(n:Nat):Raw:=⟨3,n,0,0,[]⟩
def TA(k:Nat):List Raw:=(br k).map Wi
def Je(k:Nat):List Raw:=(br k).map WN
def SC:List Raw:=TA 5++[cN]
def UA(k:Nat):List Raw:=(List.replicate k SC).flatten
def QQ(l:List Raw)(many:Nat):List Raw:=(l++Je 5)++UA many
theorem dd(k:Nat):TA (k+1)=TA k++[Wi k]:=by unfold TA;rw[bG,bb];rfl
theorem BH(k:Nat):Je (k+1)=Je k++[WN k]:=by unfold Je;rw[bG,bb];rfl
theorem Mk(k:Nat):UA (k+1)=UA k++SC:=by
 unfold UA;rw[List.replicate_succ',List.flatten_append];simp
theorem FK(k:Nat):(TA k).length=k:=by unfold TA;simp
theorem Ot(k:Nat):(Je k).length=k:=by unfold Je;simp
theorem D2(k:Nat):(UA k).length=6*k:=by
 induction k with
 | zero=>rfl
 | succ k ih=>rw[Mk,au,ih];unfold SC;rw[au,FK];simp;omega
theorem Si(l:List Raw)(k:Nat):(QQ l k).length=(U l)+5+6*k:=by
 unfold QQ;rw[au,au,Ot,D2]
theorem Ml{k:Nat}{x:Raw}(h:x∈Je k):∃n,n<k/\x=WN n:=by
 unfold Je at h;obtain⟨n,hn,rfl⟩:=aU.1 h;exact⟨n,bg.1 hn,rfl⟩
theorem D3{k:Nat}{x:Raw}(h:x∈TA k):∃n,n<k/\x=Wi n:=by
 unfold TA at h;obtain⟨n,hn,rfl⟩:=aU.1 h;exact⟨n,bg.1 hn,rfl⟩
theorem FL{k:Nat}{x:Raw}(h:x∈UA k):(∃n,n<5/\x=Wi n)\/x=cN:=by
 unfold UA at h;obtain⟨l,hl,hx⟩:=bl.1 h;rw[(List.mem_replicate.1 hl).2]at hx;unfold SC at hx;rcases al.1 hx with hx|hx
 .exact .inl (D3 hx)
 .exact .inr (aI.1 hx)
theorem jO{k:Nat}{x:Raw}(h:x∈QQ l k):x∈l\/(∃n,n<5/\x=WN n)\/(∃n,n<5/\x=Wi n)\/x=cN:=by
 unfold QQ at h;rcases al.1 h with h|h
 .rcases al.1 h with h|h
  .exact .inl h
  .exact .inr (.inl (Ml h))
 .exact .inr (.inr (FL h))
theorem rR:(∀n,n<5->(WN n).err=0)/\(∀n,n<5->(Wi n).err=0)/\cN.err=0:=aaa
theorem FM(h:∀x∈l,x.err=0)(k:Nat):∀x∈QQ l k,x.err=0:=fun x hx=>by
 obtain⟨e1,e2,e3⟩:=rR;rcases jO hx with hx|⟨n,hn,rfl⟩|⟨n,hn,rfl⟩|rfl
 .exact h x hx
 .exact e1 n hn
 .exact e2 n hn
 .exact e3
theorem Zap{A:List Raw}(hA:∀x∈A,x.err=0){S:Cm->Prop}(hS:∀x∈A,x.k=1->∀now:Nat,YP x.data now=0->S (Xo x.data now)):
  ∀a∈A.map Raw.ac,cX S (A.map fun x=>Wg x.data) a:=fun a ha=>by
 obtain⟨z,hz,rfl⟩:=aU.1 ha;obtain⟨_,q2,_,q4,_⟩:=FD (hA z hz);exact⟨⟨by unfold Raw.ac;simp only;omega,aU.2 ⟨z,hz,rfl⟩⟩,q4.1,fun now hk h=>hS z hz hk now h⟩
theorem rS{A:List Raw}(hA:∀x∈A,x.err=0)(hl:(U A)<=100000){i:Nat}(hi:i<5){x:Cm}(hx:x∈((Js A).Zb i).ZB):x=IB\/∃a∈A,a.k=1/\YP a.data 0=0/\x=Xo a.data 0:=by
 have ok:=Zap hA (S:=fun x=>∃a∈A,a.k=1/\YP a.data 0=0/\x=Xo a.data 0) (fun z hz hk now h=>by
  obtain⟨q1,q2⟩:=IN h (now:=0) nc nc;exact⟨z,hz,hk,q1,q2.symm⟩)
 exact Zak (by rw[a5];exact hl) (A.map Raw.ac) ok i hi x hx
theorem ZdT{rc:List Nat}{now:Int}(h:YP rc now=0):(Xo rc now).err=0:=by
 obtain⟨o,_⟩:=(HN rc now).1 h;have hd:=o.dec;unfold Xo;rw[if_pos h];unfold J2.err;simp only;unfold Qr at hd;rw[if_pos (by rw[List.length_drop,o.plain])]at hd;exact hd
theorem ZdU{α β:Type}{R:α->β->Prop}{l:List α}{k:List β}(s:AV R l k):∀(i:Nat) (h1:i<(U l)) (h2:i<(U k)),R l[i] k[i]:=by
 induction s with
 | nil=>intro i h1;cases h1
 | cons a _ ih=>
  intro i h1 h2
  cases i with
  | zero=>exact a
  | succ i=>exact ih i (by simpa using h1) (by simpa using h2)
def Zmy(w:Wd):List (List Cm):=[(w.Zb 0).ZB,(w.Zb 1).ZB,(w.Zb 2).ZB,(w.Zb 3).ZB,(w.Zb 4).ZB]
theorem rT(w:Wd)(i:Nat)(hi:i<5):(Zmy w)[i]'hi=(w.Zb i).ZB:=by
 match i,hi with
 | 0,_=>rfl
 | 1,_=>rfl
 | 2,_=>rfl
 | 3,_=>rfl
 | 4,_=>rfl
theorem jv.ZB{h:Hp}{R:List a1}{w:Wd}{lv tv:a1}{vs:List a1}(s:jv h R w lv tv vs):∃b o c,lv=aw (Y ⟨b,o,Z⟩) 5 c/\b<h.size/\∀n,n<5->∃x,hc h ⟨b,o+n,Z⟩=Y x/\Ts J2.C 5 h x (w.Zb n).ZB:=by
 have vl:(U vs)=5:=mI s.each;obtain⟨p,c,rfl,XE⟩:=s.Zmo.open (n:=1) (enc:=fun v=>[v]) (fun _=>rfl) (show (1:Nat)≠0 by decide);obtain⟨b,o,rfl,hb,hh⟩:=XE (by intro e;rw[e]at vl;cases vl);refine⟨b,o,c,by rw[vl],hb,fun n hn=>⟨vs[n],?_,?_⟩⟩
 .have:=hh n nc;have:=this.hc (i:=0) rfl;rw[Nat.mul_one]at this;exact this
 .have:=ZdU s.each n nc hn;rw[show ([(w.Zb 0).ZB,(w.Zb 1).ZB,(w.Zb 2).ZB,(w.Zb 3).ZB,(w.Zb 4).ZB]:List (List Cm))[n]'hn=(w.Zb n).ZB from rT w n hn]at this;exact this
set_option maxHeartbeats 4000000 in
theorem FN(T:World)(h:Hp)(v:a1)(xs:List (Raw × a1))(many:Nat)(hv:Ts Wq 5 h v xs)(hx:∀x∈xs,Pv LC h x.2 x.1.data)(Bd:(U xs)<=1000000)(hm:many<=1000000):
  Zd bc T 20 #[v,am aa many] h fun v' h'=>∃o,JD h o h' v' (QQ (Xh xs) many):=by
 have rl:(Xh xs).length=(U xs):=by unfold Xh;simp
 refine Zd.XS [_,_] Tryz.func20 ?_;simp -implicitDefEqProofs only[go_sem];refine (JD.nil h).Zam Hg hv hx nc ?_;intro v1 o1 g1 A1;rw[be]at A1;simp -implicitDefEqProofs only[go_sem];refine VS.Yj (fun F g=>F 1=am aa many/\∃(n:Nat) (o:Ow),n<=5/\F 6=am aa n/\JD h o g (F 5) (Xh xs++Je n))
  (fun F _=>5-(vi (F 6)).toNat) rfl ⟨rfl,0,o1,nc,rfl,by rw[show Je 0=[] from rfl,bf];exact A1⟩ ?_
 rintro F2 g2 ⟨f1,n,o2,hn,f6,A2⟩;obtain⟨p2,c2,f5,_⟩:=A2.ZP;by_cases ZU:n<5
 .have Z8:(n:Int)<5:=nc;rw[f5]at A2;simp -implicitDefEqProofs only[go_sem,f1,f5,f6,Z8];refine A2.add (by rw[au,Ot];omega) 9 n 0 0 ?_;intro v3 o3 g3 A3;simp -implicitDefEqProofs only[go_sem,f6];unfold XK;refine⟨⟨f1,n+1,o3,ZU,rfl,?_⟩,?_⟩
  .rw[BH,<-a2];exact A3
  .simp only[vi,Zr,↓reduceIte,f6];omega
 have Xp:¬(n:Int)<5:=nc;obtain rfl:n=5:=nc;simp -implicitDefEqProofs only[go_sem,f1,f6];refine VS.Yj (fun F g=>F 1=am aa many/\∃(i:Nat) (o:Ow),i<=many/\F 7=am aa i/\JD h o g (F 5) ((Xh xs++Je 5)++UA i))
  (fun F _=>many-(vi (F 7)).toNat) rfl ⟨f1,0,o2,nc,rfl,by rw[show UA 0=[] from rfl,bf];exact A2⟩ ?_
 clear f1 f5 f6 A2;rintro F3 g3 ⟨f1,i,o3,hi,f7,A3⟩;by_cases ZU:i<many
 .have Z8:(i:Int)<many:=nc;simp -implicitDefEqProofs only[go_sem,f1,f7,Z8];refine VS.Yj (fun F g=>(F 1=am aa many/\F 7=am aa i)/\∃(n:Nat) (o:Ow),n<=5/\F 8=am aa n/\JD h o g (F 5) (((Xh xs++Je 5)++UA i)++TA n))
   (fun F _=>5-(vi (F 8)).toNat) rfl ⟨⟨f1,f7⟩,0,o3,nc,rfl,by rw[show TA 0=[] from rfl,bf];exact A3⟩ ?_
  clear f1 f7 A3;rintro F4 g4 ⟨⟨f1,f7⟩,n,o4,hn,f8,A4⟩;obtain⟨p4,c4,f5,_⟩:=A4.ZP;rw[f5]at A4;have hlen:(((Xh xs++Je 5)++UA i)++TA n).length<=100000000:=by
   rw[au,au,au,Ot,D2,FK];omega
  by_cases hn5:n<5
  .have Zmz:(n:Int)<5:=nc;simp -implicitDefEqProofs only[go_sem,f1,f5,f7,f8,Zmz];refine A4.add nc 3 n 0 0 ?_;intro v5 o5 g5 A5;simp -implicitDefEqProofs only[go_sem,f8];unfold XK;refine⟨⟨⟨f1,f7⟩,n+1,o5,hn5,rfl,?_⟩,?_⟩
   .rw[dd,<-a2];exact A5
   .simp only[vi,Zr,↓reduceIte,f8];omega
  .have Zmz:¬(n:Int)<5:=nc;obtain rfl:n=5:=nc;simp -implicitDefEqProofs only[go_sem,f1,f5,f7,f8];refine A4.add nc 7 0 0 0 ?_;intro v5 o5 g5 A5;simp -implicitDefEqProofs only[go_sem,f7];unfold XK;refine⟨⟨f1,i+1,o5,ZU,rfl,?_⟩,?_⟩
   .rw[Mk];unfold SC;rw[<-a2,<-a2];exact A5
   .simp only[vi,Zr,↓reduceIte,f7];omega
 .have Xp:¬(i:Int)<many:=nc;obtain rfl:i=many:=nc;obtain⟨p3,c3,f5,_⟩:=A3.ZP;simp -implicitDefEqProofs only[go_sem,f1,f5,f7,Xp];rw[f5]at A3;exact⟨_,A3⟩
def TB(w:Wd):Nat->List Cm
 | 0=>[]
 | n+1=>if (TB w n).length<(w.Zb n).ZB.length then (w.Zb n).ZB else TB w n
def lng(w:Wd):List Cm:=TB w 5
theorem rU(w:Wd):∀n,TB w n=[]\/∃i,i<n/\TB w n=(w.Zb i).ZB:=by
 intro n
 induction n with
 | zero=>exact .inl rfl
 | succ n ih=>
  unfold TB;split
  .exact .inr ⟨n,nc,rfl⟩
  .rcases ih with h|⟨i,hi,h⟩
   .exact .inl h
   .exact .inr ⟨i,nc,h⟩
theorem BI(w:Wd):lng w=[]\/∃i,i<5/\lng w=(w.Zb i).ZB:=rU w 5
theorem Zaq(w:Wd):∀n i,i<n->(w.Zb i).ZB.length<=(TB w n).length:=by
 intro n
 induction n with
 | zero=>intro i h;omega
 | succ n ih=>
  intro i hi;unfold TB;split
  .rename_i q;by_cases e:i=n
   .rw[e];exact bd _
   .have:=ih i nc;omega
  .rename_i q;by_cases e:i=n
   .rw[e];omega
   .exact ih i nc
structure ZvD(R:List a1):Prop where
 len:(U R)=13
 one:R.all YC=true
 put:Y9 [Value.int aa 0,.bool false,.bool false,.bool false,.bool false,.bool false,aw Z 0 0,am aa 0,am aa 0,am aa 0,am aa 0,am aa 0,aw Z 0 0] 0 R=R
 le:(U R)<=13
 take:R.take 13=R
theorem jv.ok{h:Hp}{w:Wd}{lv tv:a1}{vs:List a1}(ra:jv h (ju w lv tv) w lv tv vs):ZvD (ju w lv tv)/\(∃b o c,lv=aw (Y ⟨b,o,Z⟩) 5 c)/\∃p c,tv=aw p w.ZE.length c:=by
 obtain⟨b,o,c,hl,_,_⟩:=ra.ZB;obtain⟨pt,ct,ht,_⟩:=ra.ZE.open (n:=5) (enc:=Fi) (fun _=>rfl) (show (5:Nat)≠0 by decide);subst hl;subst ht;exact⟨⟨rfl,rfl,Z3 rfl,bd 13,rfl⟩,⟨b,o,c,rfl⟩,pt,ct,rfl⟩
theorem jP(T:World)(h:Hp)(w:Wd)(lv tv:a1)(vs:List a1)(ra:jv h (ju w lv tv) w lv tv vs):
  Zd bc T 10 #[.agg (ju w lv tv).toArray] h fun v' h'=>Ts J2.C 5 h' v' (lng w)/\Zk h.size h h':=by
 obtain⟨b,o,c,rfl,hb,hx⟩:=ra.ZB;obtain⟨R,hR⟩:=ZQ (ju w (aw (Y ⟨b,o,Z⟩) 5 c) tv);rw[<-hR];refine Zd.XS [_] Tryz.func10 ?_;obtain⟨h1,Xk⟩:=ZQ (h.push (a8 R.toArray 42):Hp);have e1:=Xk.symm;have b1:Zk h.size h h1:=by rw[Xk];exact (Zk.refl _ _).add _
 have y1:h1[h.size]? = Y (a8 R.toArray 42):=by rw[Xk];exact Zc
 have r6:hc h1 ⟨h.size,6,Z⟩=Y (aw (Y ⟨b,o,Z⟩) 5 c):=by rw[Zn y1,hR];rfl
 have ly:=Za y1;simp -implicitDefEqProofs only[go_sem,e1];refine VS.Yj (fun F g=>g=h1/\F 1=.pointer (Y ⟨h.size,0,Z⟩)/\∃n:Nat,n<=5/\F 4=am aa n/\Ts J2.C 5 h1 (F 3) (TB w n))
  (fun F _=>5-(vi (F 4)).toNat) rfl ⟨rfl,rfl,0,nc,rfl,⟨(UE.nil 0 0 5 h1).sl⟩⟩ ?_
 rintro F2 g2 ⟨rfl,f1,n,hn,f4,t3⟩;obtain⟨p3,c3,f3,_⟩:=QC t3;by_cases ZU:n<5
 .have Z8:(n:Int)<5:=nc;obtain⟨x,rx,tx⟩:=hx n ZU;obtain⟨px,cx,rfl,_⟩:=QC tx;have rx2:hc g2 ⟨b,o+n,Z⟩=Y (aw px (w.Zb n).ZB.length cx):=by rw[b1.hc (by exact hb)];exact rx
  have tx2:=tx.Yy b1;by_cases hgt:((w.Zb n).ZB.length:Int)>(TB w n).length
  .simp -implicitDefEqProofs only[go_sem,f1,f3,f4,r6,Z8,rx2,hgt];unfold XK;refine⟨⟨rfl,f1,n+1,ZU,rfl,?_⟩,?_⟩
   .have e:TB w (n+1)=(w.Zb n).ZB:=by rw[TB,if_pos nc]
    rw[e];exact tx2
   .simp only[vi,Zr,↓reduceIte,f4];omega
  .simp -implicitDefEqProofs only[go_sem,f1,f3,f4,r6,Z8,rx2,hgt];unfold XK;refine⟨⟨rfl,f1,n+1,ZU,rfl,?_⟩,?_⟩
   .have e:TB w (n+1)=TB w n:=by rw[TB,if_neg nc]
    rw[e];exact t3
   .simp only[vi,Zr,↓reduceIte,f4];omega
 .have Xp:¬(n:Int)<5:=nc;obtain rfl:n=5:=nc;rw[f3]at t3;simp -implicitDefEqProofs only[go_sem,f1,f3,f4,r6];exact⟨t3,b1⟩
def JX(n:Nat):Raw:=⟨2,n,0,0,[]⟩
def Zar(k:Int):Prop:=k=1\/k=2\/k=6\/k=8
instance (k:Int):Decidable (Zar k):=by unfold Zar;infer_instance
def manyN(l:List Raw):Nat->Nat
 | 0=>100
 | i+1=>match l[i]? with
  | some x=>if Zar x.k then manyN l i+20 else manyN l i
  | none=>manyN l i
theorem FO(l:List Raw):∀i,manyN l i<=100+20*i:=by
 intro i
 induction i with
 | zero=>exact bd _
 | succ i ih=>
  unfold manyN
  cases l[i]? with
  | none=>simp only;omega
  | some x=>simp only;split<;>omega
def Wj(l:List Raw)(n many:Nat):List Raw:=QQ (QQ l 0++[JX n]) many
def RV(l:List Raw)(n many:Nat):Nat->List Raw
 | 0=>l
 | k+1=>Wj (RV l n many k) n many
def Xi(l:List Raw)(n:Nat):List Raw:=RV l n (manyN l (U l)) 2
theorem rW(l:List Raw)(n many:Nat):(Wj l n many).length=(U l)+11+6*many:=by
 unfold Wj;rw[Si,au,Si,bn]
theorem FP(l:List Raw)(n many k:Nat):(RV l n many k).length=(U l)+k*(11+6*many):=by
 induction k with
 | zero=>simp[RV]
 | succ k ih=>rw[RV,rW,ih,Nat.add_mul k 1 (11+6*many),Nat.one_mul];omega
theorem mQ{n:Nat}(h:n<5):(JX n).err=0:=by
 have:∀n<5,(JX n).err=0:=aaa;exact this n h
theorem rX(h:∀x∈l,x.err=0){n:Nat}(hn:n<5)(many k:Nat):∀x∈RV l n many k,x.err=0:=by
 induction k with
 | zero=>exact h
 | succ k ih=>
  unfold RV Wj;refine FM (fun x hx=>?_) many;rcases al.1 hx with hx|hx
  .exact FM ih 0 x hx
  .rw[aI.1 hx];exact mQ hn
theorem IQ(h:∀x∈l,x.err=0){n:Nat}(hn:n<5):∀x∈Xi l n,x.err=0:=rX h hn _ 2
theorem IR{n b:Nat}(h:(U l)<=b):(Xi l n).length<=b+2*(11+6*(100+20*b)):=by
 unfold Xi;rw[FP];have:=FO l (U l);omega
set_option maxHeartbeats 4000000 in
theorem df(T:World)(h:Hp)(v:a1)(xs:List (Raw × a1))(n:Nat)(hn:n<5)(hv:Ts Wq 5 h v xs)(hx:∀x∈xs,Pv LC h x.2 x.1.data)(Bd:(U xs)<=3000):
  Zd bc T 9 #[v,am aa n] h fun v' h'=>∃hk o,Zk h.size h hk/\JD hk o h' v' (Xi (Xh xs) n):=by
 have rl:(Xh xs).length=(U xs):=by unfold Xh;simp
 obtain⟨p,c,rfl,XE⟩:=hv.open FB aaa;refine Zd.XS [_,_] Tryz.func9 ?_;simp -implicitDefEqProofs only[go_sem];refine VS.Yj (fun F g=>g=h/\F 0=aw p (U xs) c/\F 1=am aa n/\∃i:Nat,i<=(U xs)/\F 6=am aa i/\F 5=am aa (manyN (Xh xs) i))
  (fun F _=>(U xs)-(vi (F 6)).toNat) rfl ⟨rfl,rfl,rfl,0,Nat.zero_le _,rfl,rfl⟩ ?_
 rintro F g ⟨rfl,f0,f1,i,hi,f6,f5⟩;have ej:=FO (Xh xs) i;obtain⟨M,hM⟩:=ZQ (manyN (Xh xs) i);rw[<-hM]at f5 ej;by_cases ZU:i<(U xs)
 .have Z8:(i:Int)<(U xs):=nc;obtain⟨bs,os,rfl,tH,Ky⟩:=XE (by intro e;rw[e]at ZU;simp at ZU);obtain⟨x,Pq⟩:=ZQ (xs[i]);have ca:JP g bs (os+i*5) (Wq x):=by rw[Pq];exact Ky i ZU
  have r0:hc g ⟨bs,os+i*5,Z⟩=Y (am aa x.1.k):=ca.hc (i:=0) rfl;have hxr:(Xh xs)[i]? = Y x.1:=by unfold Xh;rw[bk,a4 ZU,<-Pq];rfl
  have Zas:Zar x.1.k->manyN (Xh xs) (i+1)=M+20:=fun q=>by rw[manyN,hxr];simp only;rw[if_pos q,hM]
  have ku:¬Zar x.1.k->manyN (Xh xs) (i+1)=M:=fun q=>by rw[manyN,hxr];simp only;rw[if_neg q,hM]
  obtain⟨M',hM'⟩:=ZQ (manyN (Xh xs) (i+1));rw[<-hM']at Zas ku;by_cases q1:x.1.k=1
  .have hb:=Zas (.inl q1);simp -implicitDefEqProofs only[go_sem,f0,f1,f5,f6,Z8,r0,q1];unfold XK;refine⟨⟨rfl,f0,f1,i+1,ZU,rfl,?_⟩,?_⟩
   .rw[<-hM',hb];rfl
   .simp only[vi,Zr,↓reduceIte,f6];omega
  by_cases q2:x.1.k=2
  .have hb:=Zas (.inr (.inl q2));simp -implicitDefEqProofs only[go_sem,f0,f1,f5,f6,Z8,r0,q2];unfold XK;refine⟨⟨rfl,f0,f1,i+1,ZU,rfl,?_⟩,?_⟩
   .rw[<-hM',hb];rfl
   .simp only[vi,Zr,↓reduceIte,f6];omega
  by_cases q3:x.1.k=6
  .have hb:=Zas (.inr (.inr (.inl q3)));simp -implicitDefEqProofs only[go_sem,f0,f1,f5,f6,Z8,r0,q3];unfold XK;refine⟨⟨rfl,f0,f1,i+1,ZU,rfl,?_⟩,?_⟩
   .rw[<-hM',hb];rfl
   .simp only[vi,Zr,↓reduceIte,f6];omega
  by_cases q4:x.1.k=8
  .have hb:=Zas (.inr (.inr (.inr q4)));simp -implicitDefEqProofs only[go_sem,f0,f1,f5,f6,Z8,r0,q4];unfold XK;refine⟨⟨rfl,f0,f1,i+1,ZU,rfl,?_⟩,?_⟩
   .rw[<-hM',hb];rfl
   .simp only[vi,Zr,↓reduceIte,f6];omega
  .have hb:=ku (by rintro (q|q|q|q)<;>contradiction);simp -implicitDefEqProofs only[go_sem,f0,f1,f5,f6,Z8,r0,q1,q2,q3,q4];unfold XK;refine⟨⟨rfl,f0,f1,i+1,ZU,rfl,?_⟩,?_⟩
   .rw[<-hM',hb];exact f5
   .simp only[vi,Zr,↓reduceIte,f6];omega
 have Xp:¬(i:Int)<(U xs):=nc;obtain rfl:i=(U xs):=nc;have hMM:Xi (Xh xs) n=RV (Xh xs) n M 2:=by unfold Xi;rw[rl,hM]
 rw[hMM];clear hM;simp -implicitDefEqProofs only[go_sem,f0,f6,Xp];refine (JD.nil g).Zam Hg hv hx nc ?_;intro v1 o1 g1 A1;rw[be]at A1;simp -implicitDefEqProofs only[go_sem,f1,f5];refine VS.Yj (fun F2 g2=>F2 1=am aa n/\F2 5=am aa M/\∃k:Nat,k<=2/\F2 8=am aa k/\∃hk o,Zk g.size g hk/\JD hk o g2 (F2 7) (RV (Xh xs) n M k))
  (fun F2 _=>2-(vi (F2 8)).toNat) rfl ⟨f1,f5,0,nc,rfl,g,o1,Zk.refl _ _,A1⟩ ?_
 clear f0 f1 f5 f6 A1;rintro F2 g2 ⟨f1,f5,k,hk,f8,hk0,ok,Bk,A2⟩;obtain⟨B2',C2,ys2,hr2,t2,i2⟩:=A2.done;have B2:Zk g.size g g2:=Bk.trans (B2'.mono Bk.size);have yl:(U ys2)=(U xs)+k*(11+6*M):=by
  have:=congrArg U hr2;rw[FP,rl]at this;rw[<-this];unfold Xh;simp
 have hkm:k*(11+6*M)<=2*(11+6*M):=Nat.mul_le_mul_right _ hk;obtain⟨p2,c2,f7,_⟩:=t2.open FB aaa;by_cases hk2:k<2
 .have ZhG:(k:Int)<2:=nc;rw[f7]at t2;simp -implicitDefEqProofs only[go_sem,f1,f5,f7,f8,ZhG];refine (FN T g2 _ ys2 0 t2 i2 nc nc).use ?_;rintro v3 g3 ⟨o3,A3⟩;obtain⟨p3,c3,rfl,_⟩:=A3.ZP;have B3:=A3.done.1;simp -implicitDefEqProofs only[go_sem,f1,f5,f8];refine A3.add (by rw[Si];unfold Xh;rw[a5];omega) 2 n 0 0 ?_;intro v4 o4 g4 A4;obtain⟨B4,C4,ys4,hr4,t4,i4⟩:=A4.done;have yl4:(U ys4)=(U ys2)+6:=by
   have:=congrArg U hr4;rw[au,Si]at this;unfold Xh at this;simp only[a5,bn]at this;omega
  simp -implicitDefEqProofs only[go_sem,f1,f5,f8];refine (FN T g4 _ ys4 M t4 i4 nc nc).use ?_;rintro v5 g5 ⟨o5,A5⟩;rw[hr4,hr2]at A5;simp -implicitDefEqProofs only[go_sem,f8];unfold XK;refine⟨⟨f1,f5,k+1,hk2,rfl,g4,o5,B2.trans (B4.mono B2.size),A5⟩,?_⟩;simp only[vi,Zr,↓reduceIte,f8];omega
 .have ZhG:¬(k:Int)<2:=nc;obtain rfl:k=2:=nc;rw[f7]at A2;simp -implicitDefEqProofs only[go_sem,f7,f8,ZhG];exact⟨hk0,ok,Bk,A2⟩
theorem dg(T:World)(h:Hp)(v:a1)(xs:List (Raw × a1))(n:Nat)(hn:n<5)(hv:Ts Wq 5 h v xs)(hx:∀x∈xs,Pv LC h x.2 x.1.data)(Bd:xs.length<=3000):
  Zd bc T 9 #[v,.int .i64 n] h fun v' h'=>Zk h.size h h'/\Ph v'/\∃ys,Xh ys=Xi (Xh xs) n/\Ts Wq 5 h' v' ys/\∀y∈ys,Pv LC h' y.2 y.1.data:=by
 refine (df T h v xs n hn hv hx Bd).mono ?_;rintro v' h' ⟨hk,o,B,A⟩;obtain⟨b,c,q⟩:=A.done;exact⟨B.trans (b.mono B.size),c,q⟩
def IS(w:Wd)(i:Nat):Wd:=w.out i (step (w.Zb i))
def FQ(w:Wd):Wd:=IS (IS (IS (IS (IS w 0) 1) 2) 3) 4
def Zat(w:Wd):Wd:=w.Zp.foldl Q3 { w with Zp:=[] }
def jQ(w:Wd):Wd:=Zat (FQ w)
def Ud:Nat->Wd->Wd
 | 0,w=>w
 | k+1,w=>jQ (Ud k w)
theorem UB(w:Wd)(n:Nat):act w (Wi n).ac=IS w n:=by
 unfold act Wi Raw.ac IS;simp
theorem mR(w:Wd):act w cN.ac=Zat w:=by
 unfold act cN Raw.ac Zat;simp
theorem LM(l k:List Raw):Js (l++k)=(k.map Raw.ac).foldl act (Js l):=by
 unfold Js TL;rw[bb,bw]
theorem rY(l:List Raw):Js (l++SC)=jQ (Js l):=by
 rw[LM];show act (act (act (act (act (act (Js l) (Wi 0).ac) (Wi 1).ac) (Wi 2).ac) (Wi 3).ac) (Wi 4).ac) cN.ac=_;rw[UB,UB,UB,UB,UB,mR];rfl
theorem Zau(l:List Raw):∀k,Js (l++UA k)=Ud k (Js l):=by
 intro k
 induction k with
 | zero=>rw[show UA 0=[] from rfl,bf];rfl
 | succ k ih=>rw[Mk,<-a2,rY,ih];rfl
theorem Vl(w:Wd)(n:Nat)(hu:(w.Zb n).up=true):act w (WN n).ac=w:=by
 have e:act w (WN n).ac=w.set n (started n (w.Zb n)):=by
  unfold act WN Raw.ac;simp
 rw[e];unfold started;rw[if_pos hu];unfold Wd.set
 congr 1
 funext j
 split
 .rename_i q;rw[q]
 .rfl
theorem FS(l:List Raw)(hu:∀i,i<5->((Js l).Zb i).up=true):Js (l++Je 5)=Js l:=by
 rw[LM];show act (act (act (act (act (Js l) (WN 0).ac) (WN 1).ac) (WN 2).ac) (WN 3).ac) (WN 4).ac=_;rw[Vl _ _ (hu 0 nc),Vl _ _ (hu 1 nc),Vl _ _ (hu 2 nc),Vl _ _ (hu 3 nc),Vl _ _ (hu 4 nc)]
theorem dh:∀(ls:List YF) (w:Wd) (i:Nat),(ls.foldl Q3 w).Zb i=if (w.Zb i).up=true then { w.Zb i with Zg:=(w.Zb i).Zg++ls.filter (fun l=>decide (l.to.toNat=i)) } else w.Zb i:=by
 intro ls
 induction ls with
 | nil=>intro w i;simp
 | cons l ls ih=>
  intro w i;rw[a6,ih];unfold Q3;by_cases e:i=l.to.toNat
  .subst e;by_cases hu:(w.Zb l.to.toNat).up=true
   .rw[if_pos hu];unfold Wd.set;simp only[if_true,hu,bB,decide_true,a2,bA,be]
   .rw[if_neg hu,if_neg hu,if_neg hu]
  .have hf:(l :: ls).filter (fun l=>decide (l.to.toNat=i))=ls.filter (fun l=>decide (l.to.toNat=i)):=by
    rw[bB,if_neg];simp;exact fun q=>e q.symm
   rw[hf];split
   .unfold Wd.set;simp only[if_neg e]
   .rfl
def Ro(w:Wd):List YF:=w.Zp++(step (w.Zb 0)).ls++(step (w.Zb 1)).ls++(step (w.Zb 2)).ls++(step (w.Zb 3)).ls++(step (w.Zb 4)).ls
theorem jR(w:Wd):(FQ w).Zp=Ro w:=by
 unfold FQ Ro IS Wd.out;simp
theorem rZ(w:Wd)(i:Nat)(hi:i<5):(FQ w).Zb i=(step (w.Zb i)).n:=by
 match i,hi with
 | 0,_=>rfl
 | 1,_=>rfl
 | 2,_=>rfl
 | 3,_=>rfl
 | 4,_=>rfl
theorem QM(w:Wd)(i:Nat)(hi:i<5)(hu:(w.Zb i).up=true):(jQ w).Zb i = { (step (w.Zb i)).n with Zg:=(step (w.Zb i)).n.Zg++(Ro w).filter (fun l=>decide (l.to.toNat=i)) }:=by
 unfold jQ Zat;have e:({ FQ w with Zp:=[] }:Wd).Zb i=(step (w.Zb i)).n:=rZ w i hi;rw[dh,e,if_pos (by rw[(KF (w.Zb i)).1];exact hu),jR]
theorem BJ(w:Wd):(jQ w).Zp=[]:=by
 unfold jQ Zat;exact (jK _ _).2.2
theorem Vm{w:Wd}{l:YF}:l∈Ro w↔l∈w.Zp\/∃i,i<5/\l∈(step (w.Zb i)).ls:=by
 unfold Ro;simp only[al]
 constructor
 .rintro (((((h|h)|h)|h)|h)|h)
  .exact .inl h
  .exact .inr ⟨0,nc,h⟩
  .exact .inr ⟨1,nc,h⟩
  .exact .inr ⟨2,nc,h⟩
  .exact .inr ⟨3,nc,h⟩
  .exact .inr ⟨4,nc,h⟩
 .rintro (h|⟨i,hi,h⟩)
  .exact .inl (.inl (.inl (.inl (.inl h))))
  .match i,hi with
   | 0,_=>exact .inl (.inl (.inl (.inl (.inr h))))
   | 1,_=>exact .inl (.inl (.inl (.inr h)))
   | 2,_=>exact .inl (.inl (.inr h))
   | 3,_=>exact .inl (.inr h)
   | 4,_=>exact .inr h
theorem OZ{w:Wd}{i:Nat}(hi:i<5)(hu:(w.Zb i).up=true){l:YF}:l∈((jQ w).Zb i).Zg↔l∈(step (w.Zb i)).n.Zg\/(l∈Ro w/\l.to.toNat=i):=by
 rw[QM w i hi hu];simp only[al,a3,decide_eq_true_eq]
structure Laws(I:Nd->Prop)(J K:YF->Prop):Prop where
 box:∀n k,I n->I { n with Zg:=k }
 mS:∀n l,I n->n.Zs=Z->J l->I (Zw n l).n/\∀m∈(Zw n l).ls,K m
 mT:∀n,I n->n.Zs=Z->I (Yp n).n/\∀m∈(Yp n).ls,K m
 fin:∀n p,I n->n.Zs=Y p->I (YK (ZO n) p).n/\∀m∈(YK (ZO n) p).ls,K m
def VU(n:Nd):Prop:=n.Zs=Z/\(ZA n n.Zg).n.Zs=Z
theorem JY{I:Nd->Prop}{J K:YF->Prop}(W:Laws I J K):∀(k:List YF) (n:Nd),I n->(∀l∈k,J l)->I (ZA n k).n/\(∀m∈(ZA n k).ls,K m)/\∀l∈(ZA n k).n.Zg,l∈k:=by
 intro k
 induction k with
 | nil=>
  intro n h _;unfold ZA;exact⟨W.box _ _ h,(fun m hm=>by cases hm),(fun l hl=>by cases hl)⟩
 | cons l k ih=>
  intro n h hk;unfold ZA;by_cases hp:n.Zs.isSome=true
  .rw[if_pos hp];exact⟨W.box _ _ h,(fun m hm=>by cases hm),fun m hm=>hm⟩
  .rw[if_neg hp];have ub:({ n with Zg:=k }:Nd).Zs=Z:=by
    show n.Zs=Z
    cases q:n.Zs with
    | none=>rfl
    | some p=>rw[q]at hp;exact absurd rfl hp
   obtain⟨h1,h2⟩:=W.mS { n with Zg:=k } l (W.box _ _ h) ub (hk l Hg);obtain⟨h3,h4,h5⟩:=ih _ h1 (fun m hm=>hk m (by simp[hm]));refine⟨h3,fun m hm=>?_,fun m hm=>List.mem_cons_of_mem _ (h5 m hm)⟩;rcases al.1 hm with hm|hm
   .exact h2 m hm
   .exact h4 m hm
theorem V3{I:Nd->Prop}{J K:YF->Prop}(W:Laws I J K)(hu:n.up=true)(h:I n)(hb:∀l∈n.Zg,J l):I (step n).n/\(∀m∈(step n).ls,K m)/\∀l∈(step n).n.Zg,l∈n.Zg:=by
 unfold step;rw[if_pos hu]
 cases hp:n.Zs with
 | some p=>
  simp only;obtain⟨h1,h2⟩:=W.fin n p h hp;exact⟨h1,h2,fun l hl=>by rw[LJ]at hl;exact hl⟩
 | none=>
  simp only;obtain⟨h1,h2,h3⟩:=JY W n.Zg n h hb;split
  .exact⟨h1,h2,h3⟩
  .rename_i q;have q0:(ZA n n.Zg).n.Zs=Z:=by
    cases e:(ZA n n.Zg).n.Zs with
    | none=>rfl
    | some p=>rw[e]at q;exact absurd rfl q
   obtain⟨h4,h5⟩:=W.mT _ h1 q0;refine⟨h4,fun m hm=>?_,fun l hl=>?_⟩
   .rcases al.1 hm with hm|hm
    .exact h2 m hm
    .exact h5 m hm
   .simp only at hl;rw[jL]at hl;exact h3 l hl
theorem drain_empty:∀(k:List YF) (n:Nd),(ZA n k).n.Zs=Z->(ZA n k).n.Zg=[]:=by
 intro k
 induction k with
 | nil=>intro n _;unfold ZA;rfl
 | cons l k ih=>
  intro n h;unfold ZA at h ⊢;by_cases hp:n.Zs.isSome=true
  .rw[if_pos hp]at h;have h:n.Zs=Z:=h;rw[h]at hp
   cases hp
  .rw[if_neg hp]at h ⊢;exact ih _ h
theorem WO(hu:n.up=true)(hf:VU n):step n=⟨(Yp (ZA n n.Zg).n).n,(ZA n n.Zg).ls++(Yp (ZA n n.Zg).n).ls,(ZA n n.Zg).ts++(Yp (ZA n n.Zg).n).ts⟩:=by
 unfold step;rw[if_pos hu,hf.1];simp only;rw[hf.2];rfl
structure Mm(I:Nd->Prop)(J A G:YF->Prop)(E F:Nd->Prop):Prop where
 sc:∀n k,E n->E { n with Zg:=k }
 ZvF:∀n l,I n->n.Zs=Z->J l->E n->E (Zw n l).n
 ZvG:∀n,I n->n.Zs=Z->E n->E (Yp n).n
 ZcP:∀n p,I n->n.Zs=Y p->E n->E (YK (ZO n) p).n
 ZhH:∀n k,F n->F { n with Zg:=k }
 Zav:∀n,F n->n.Zs≠Z
 ZvH:∀n p,I n->n.Zs=Y p->F n->E (YK (ZO n) p).n\/∃m∈(YK (ZO n) p).ls,G m
 hit:∀n l,I n->n.Zs=Z->J l->A l->E (Zw n l).n\/F (Zw n l).n\/∃m∈(Zw n l).ls,G m
theorem sf{I:Nd->Prop}{J K A G:YF->Prop}{E F:Nd->Prop}(W:Laws I J K)(H:Mm I J A G E F):∀(k:List YF) (n:Nd),I n->(∀l∈k,J l)->n.Zs=Z->(E n\/∃l∈k,A l) ->
  E (ZA n k).n\/F (ZA n k).n\/(∃l∈(ZA n k).n.Zg,A l)\/∃m∈(ZA n k).ls,G m:=by
 intro k
 induction k with
 | nil=>
  intro n h _ hp hs;unfold ZA;rcases hs with hs|⟨l,hl,_⟩
  .exact .inl (H.sc _ _ hs)
  .cases hl
 | cons l k ih=>
  intro n h hk hp hs;have hI:=W.box n k h;have ub:({ n with Zg:=k }:Nd).Zs=Z:=hp;have hJ:=hk l Hg;obtain⟨h1,_⟩:=W.mS _ l hI ub hJ;have e:ZA n (l :: k)=⟨(ZA (Zw { n with Zg:=k } l).n k).n,(Zw { n with Zg:=k } l).ls++(ZA (Zw { n with Zg:=k } l).n k).ls,(Zw { n with Zg:=k } l).ts++(ZA (Zw { n with Zg:=k } l).n k).ts⟩:=by
   conv=>lhs;unfold ZA
   rw[if_neg (by rw[hp];decide)]
  rw[e];simp only;have hj:∀m∈k,J m:=fun m hm=>hk m (by simp[hm])
  -- behind the first letter
  have main:(E (Zw { n with Zg:=k } l).n\/F (Zw { n with Zg:=k } l).n\/(∃m∈(Zw { n with Zg:=k } l).ls,G m))\/∃m∈k,A m:=by
   rcases hs with hs|⟨m,hm,hA⟩
   .exact .inl (.inl (H.ZvF _ l hI ub hJ (H.sc _ _ hs)))
   .rcases ba.1 hm with rfl|hm
    .exact .inl (H.hit _ _ hI ub hJ hA)
    .exact .inr ⟨m,hm,hA⟩
  have stop:∀(x:Nd),x.Zs.isSome=true->(ZA x k)=⟨{ x with Zg:=k },[],[]⟩\/k=[]:=fun x hx=>by
   cases k with
   | nil=>exact .inr rfl
   | cons a k=>exact .inl (by unfold ZA;rw[if_pos hx])
  have onF:F (Zw { n with Zg:=k } l).n->F (ZA (Zw { n with Zg:=k } l).n k).n:=fun hF=>by
   have hs:(Zw { n with Zg:=k } l).n.Zs.isSome=true:=by
    have:=H.Zav _ hF
    cases q:(Zw { n with Zg:=k } l).n.Zs with
    | none=>exact absurd q this
    | some p=>rfl
   rcases stop _ hs with q|q
   .rw[q];exact H.ZhH _ _ hF
   .subst q;unfold ZA;exact H.ZhH _ _ hF
  rcases main with (hE|hF|⟨m,hm,hG⟩)|hA
  .by_cases hq:(Zw { n with Zg:=k } l).n.Zs=Z
   .rcases ih _ h1 hj hq (.inl hE) with q|q|q|⟨m,hm,q⟩
    .exact .inl q
    .exact .inr (.inl q)
    .exact .inr (.inr (.inl q))
    .exact .inr (.inr (.inr ⟨m,al.2 (.inr hm),q⟩))
   .have hs:(Zw { n with Zg:=k } l).n.Zs.isSome=true:=by
     cases q:(Zw { n with Zg:=k } l).n.Zs with
     | none=>exact absurd q hq
     | some p=>rfl
    rcases stop _ hs with q|q
    .rw[q];exact .inl (H.sc _ _ hE)
    .subst q;unfold ZA;exact .inl (H.sc _ _ hE)
  .exact .inr (.inl (onF hF))
  .exact .inr (.inr (.inr ⟨m,al.2 (.inl hm),hG⟩))
  .by_cases hq:(Zw { n with Zg:=k } l).n.Zs=Z
   .rcases ih _ h1 hj hq (.inr hA) with q|q|q|⟨m,hm,q⟩
    .exact .inl q
    .exact .inr (.inl q)
    .exact .inr (.inr (.inl q))
    .exact .inr (.inr (.inr ⟨m,al.2 (.inr hm),q⟩))
   .have hs:(Zw { n with Zg:=k } l).n.Zs.isSome=true:=by
     cases q:(Zw { n with Zg:=k } l).n.Zs with
     | none=>exact absurd q hq
     | some p=>rfl
    rcases stop _ hs with q|q
    .rw[q];exact .inr (.inr (.inl hA))
    .subst q;obtain⟨m,hm,_⟩:=hA;cases hm
def Src(A:YF->Prop)(E F:Nd->Prop)(n:Nd):Prop:=E n\/F n\/∃l∈n.Zg,A l
theorem di{I:Nd->Prop}{J K A G:YF->Prop}{E F:Nd->Prop}(W:Laws I J K)(H:Mm I J A G E F)(hu:n.up=true)(h:I n)(hb:∀l∈n.Zg,J l)(hs:Src A E F n):
  (Src A E F (step n).n\/∃m∈(step n).ls,G m)/\(VU n->E (step n).n\/∃m∈(step n).ls,G m):=by
 cases hp:n.Zs with
 | some p=>
  have e:step n=YK (ZO n) p:=by unfold step;rw[if_pos hu,hp]
  rw[e];refine⟨?_,fun hf=>by rw[hf.1]at hp;cases hp⟩;rcases hs with q|q|⟨l,hl,q⟩
  .exact .inl (.inl (H.ZcP n p h hp q))
  .rcases H.ZvH n p h hp q with q|q
   .exact .inl (.inl q)
   .exact .inr q
  .exact .inl (.inr (.inr ⟨l,by rw[LJ];exact hl,q⟩))
 | none=>
  have Px:E n\/∃l∈n.Zg,A l:=by
   rcases hs with q|q|q
   .exact .inl q
   .exact absurd hp (H.Zav n q)
   .exact .inr q
  have D:=sf W H n.Zg n h hb hp Px;have hd:=(JY W n.Zg n h hb).1;by_cases hq:(ZA n n.Zg).n.Zs=Z
  .rw[WO hu ⟨hp,hq⟩];have G0:E (Yp (ZA n n.Zg).n).n\/∃m∈(ZA n n.Zg).ls++(Yp (ZA n n.Zg).n).ls,G m:=by
    rcases D with q|q|⟨l,hl,_⟩|⟨m,hm,q⟩
    .exact .inl (H.ZvG _ hd hq q)
    .exact absurd hq (H.Zav _ q)
    .rw[drain_empty _ _ hq]at hl;cases hl
    .exact .inr ⟨m,al.2 (.inl hm),q⟩
   refine⟨?_,fun _=>G0⟩;rcases G0 with q|q
   .exact .inl (.inl q)
   .exact .inr q
  .have e:step n=ZA n n.Zg:=by
    unfold step;rw[if_pos hu,hp];simp only;rw[if_pos]
    cases q:(ZA n n.Zg).n.Zs with
    | none=>exact absurd q hq
    | some p=>rfl
   rw[e];refine⟨?_,fun hf=>absurd hf.2 hq⟩;rcases D with q|q|q|q
   .exact .inl (.inl q)
   .exact .inl (.inr (.inl q))
   .exact .inl (.inr (.inr q))
   .exact .inr q
def Has{β:Type}(l:List (Int × β))(k:Int):Prop:=Yh l k≠Z
theorem Has.ins{β:Type}{l:List (Int × β)}{j:Int}(h:Has l j)(k:Int)(v:β):Has (Go.V.ins l k v) j:=by
 unfold Has;rw[Xf];split
 .exact fun e=>by cases e
 .exact h
theorem Has.now{β:Type}(l:List (Int × β))(k:Int)(v:β):Has (Go.V.ins l k v) k:=by
 unfold Has;rw[Xf,if_pos rfl];exact fun e=>by cases e
def mU(r:Xw)(s j:Int):Prop:=Has ((Yh r.Y5 s).getD []) j
structure XQ(r r':Xw):Prop where
 b:r'.b=r.b
 ZW:∀s x,Yh r.ZW s=Y x->Yh r'.ZW s=Y x
 XM:r.XM=true->r'.XM=true
 ZI:∀k,Has r.ZI k->Has r'.ZI k
 Y5:∀s j,mU r s j->mU r' s j
theorem XQ.refl(r:Xw):XQ r r:=⟨rfl,fun _ _ h=>h,fun h=>h,fun _ h=>h,fun _ _ h=>h⟩
theorem XQ.trans{a b c:Xw}(h1:XQ a b)(h2:XQ b c):XQ a c:=
 ⟨by rw[h2.b,h1.b],fun s x h=>h2.ZW s x (h1.ZW s x h),fun h=>h2.XM (h1.XM h),fun k h=>h2.ZI k (h1.ZI k h),fun s j h=>h2.Y5 s j (h1.Y5 s j h)⟩
structure VE(r r':Xw):Prop where
 k:XQ r r'
 p:r'.ZW=r.ZW
 g:r'.XM=r.XM
theorem VE.refl(r:Xw):VE r r:=⟨XQ.refl r,rfl,rfl⟩
theorem VE.trans{a b c:Xw}(h1:VE a b)(h2:VE b c):VE a c:=⟨h1.k.trans h2.k,by rw[h2.p,h1.p],by rw[h2.g,h1.g]⟩
def UL:Option Xw->Option Xw->Prop
 | none,Z=>True
 | some r,Y r'=>VE r r'
 | _,_=>False
theorem UL.refl:∀o,UL o o
 | none=>trivial
 | some r=>VE.refl r
theorem UL.trans:∀{a b c:Option Xw},UL a b->UL b c->UL a c
 | none,Z,Z,_,_=>trivial
 | some _,Y _,Y _,h1,h2=>VE.trans h1 h2
 | none,Y _,_,h,_=>h.elim
 | some _,Z,_,h,_=>h.elim
 | none,Z,Y _,_,h=>h.elim
 | some _,Y _,Z,_,h=>h.elim
structure VF(n m:Nd):Prop where
 up:m.up=n.up
 me:m.me=n.me
 ZB:∃e,m.ZB=n.ZB++e
 Zi:∀s,Has n.Zi s->Has m.Zi s
 Zx:∀x∈n.Zx,x∈m.Zx\/x∈m.ZB
theorem VF.refl(n:Nd):VF n n:=⟨rfl,rfl,⟨[],Hg⟩,fun _ h=>h,fun x h=>.inl h⟩
theorem VF.trans{a b c:Nd}(h1:VF a b)(h2:VF b c):VF a c:=by
 obtain⟨e1,p1⟩:=h1.ZB;obtain⟨e2,p2⟩:=h2.ZB;refine⟨by rw[h2.up,h1.up],by rw[h2.me,h1.me],⟨e1++e2,by rw[p2,p1,a2]⟩,fun s h=>h2.Zi s (h1.Zi s h),fun x hx=>?_⟩;rcases h1.Zx x hx with q|q
 .exact h2.Zx x q
 .exact .inr (by rw[p2];exact al.2 (.inl q))
theorem VF.same{m:Nd}(h1:m.up=n.up)(h2:m.me=n.me)(h3:m.ZB=n.ZB)(h4:m.Zi=n.Zi)(h5:m.Zx=n.Zx):VF n m:=
 ⟨h1,h2,⟨[],by rw[h3];simp⟩,fun s h=>by rw[h4];exact h,fun x hx=>.inl (by rw[h5];exact hx)⟩
structure XD(n m:Nd):Prop where
 go:VF n m
 Zq:m.Zq=n.Zq
 YZ:m.YZ=n.YZ
 data:m.data=n.data
 Zs:m.Zs=n.Zs
 SG:UL n.Zh m.Zh
theorem XD.refl(n:Nd):XD n n:=⟨VF.refl n,rfl,rfl,rfl,rfl,UL.refl _⟩
theorem XD.trans{a b c:Nd}(h1:XD a b)(h2:XD b c):XD a c:=
 ⟨h1.go.trans h2.go,by rw[h2.Zq,h1.Zq],by rw[h2.YZ,h1.YZ],by rw[h2.data,h1.data],by rw[h2.Zs,h1.Zs],h1.SG.trans h2.SG⟩
theorem BK(n:Nd)(x:Cm):XD n (JU n x):=by
 refine⟨⟨rfl,rfl,⟨[x],rfl⟩,fun _ h=>h,fun y hy=>?_⟩,rfl,rfl,rfl,rfl,UL.refl _⟩;by_cases e:y=x
 .exact .inr (al.2 (.inr (by rw[e];simp)))
 .exact .inl (a3.2 ⟨hy,by simp[e]⟩)
theorem EN:∀(k:Nat) (n:Nd),XD n (Yg k n).1/\(Yg k n).1.Zi=n.Zi:=by
 intro k
 induction k with
 | zero=>intro n;exact⟨XD.refl n,rfl⟩
 | succ k ih=>
  intro n;unfold Yg;split
  .exact⟨XD.refl n,rfl⟩
  .rename_i x _;obtain⟨h1,h2⟩:=ih (JU n x);exact⟨(BK n x).trans h1,h2⟩
theorem Ue(n:Nd)(s:Int)(x:Cm):XD n (Jg n s x).n/\Has (Jg n s x).n.Zi s/\(Jg n s x).ls=[]:=by
 unfold Jg;obtain⟨h1,h2⟩:=EN ((Jf n s x).Zi.length+1) (Jf n s x);refine⟨XD.trans (b:=Jf n s x) ⟨⟨rfl,rfl,⟨[],by simp[Jf]⟩,fun j h=>Has.ins h s x,fun y hy=>.inl hy⟩,rfl,rfl,rfl,rfl,UL.refl _⟩ h1,?_,rfl⟩;show Has (Yg ((Jf n s x).Zi.length+1) (Jf n s x)).1.Zi s;rw[h2];exact Has.now _ _ _
theorem Ou(n:Nd)(l:YF):XD n (Xs n l):=by
 unfold Xs;split
 .exact⟨VF.same rfl rfl rfl rfl rfl,rfl,rfl,rfl,rfl,UL.refl _⟩
 .exact XD.refl n
theorem D4(n:Nd)(x:Cm):XD n (add n x)/\(x∈(add n x).Zx\/x∈(add n x).ZB):=by
 unfold add;split
 .rename_i q;exact⟨XD.refl n,q⟩
 .exact⟨⟨⟨rfl,rfl,⟨[],Hg⟩,fun _ h=>h,fun y hy=>.inl (al.2 (.inl hy))⟩,rfl,rfl,rfl,rfl,UL.refl _⟩,.inl (al.2 (.inr Hg))⟩
theorem jS(hr:n.Zh=Y r)(l:YF):XD n (ZcV n r l):=by
 refine⟨VF.same rfl rfl rfl rfl rfl,rfl,rfl,rfl,rfl,?_⟩;rw[hr];exact⟨⟨rfl,fun _ _ h=>h,fun h=>h,fun k h=>Has.ins h _ _,fun _ _ h=>h⟩,rfl,rfl⟩
theorem FT(hr:n.Zh=Y r)(l:YF):XD n (Tq n r l):=by
 refine⟨VF.same rfl rfl rfl rfl rfl,rfl,rfl,rfl,rfl,?_⟩;rw[hr];refine⟨⟨rfl,fun _ _ h=>h,fun h=>h,fun k h=>h,fun s j h=>?_⟩,rfl,rfl⟩;unfold mU;show Has ((Yh (ins r.Y5 l.v.Zu (Q2 r l)) s).getD []) j;rw[Xf];split
 .rename_i e;show Has (Q2 r l) j;unfold Q2;unfold mU at h;rw[e];exact Has.ins h _ _
 .exact h
theorem Ov(n:Nd)(l:YF):XD n (Yl n l).n/\(Yl n l).ls=[]:=by
 unfold Yl
 cases hr:n.Zh with
 | none=>exact⟨XD.refl n,rfl⟩
 | some r=>
  simp only;split
  .split
   .exact⟨jS hr l,rfl⟩
   .exact⟨XD.refl n,rfl⟩
  .split
   .exact⟨XD.refl n,rfl⟩
   .split
    .obtain⟨h1,_,h3⟩:=Ue (Tq n r l) l.v.Zu l.v.cm;exact⟨(FT hr l).trans h1,h3⟩
    .exact⟨FT hr l,rfl⟩
theorem dj(n:Nd)(l:YF):XD n (Qp n l).n:=by
 unfold Qp;split
 .exact Ou n l
 .exact Ou n l
def ZmB(n:Nd)(l:YF):Nd:={ n with data:=n.data++YS (JL l.b),Zs:=Y (.VB ⟨l.b,n.Zq.l⟩ l.Jq l.b n.Zq.l) }
def ZmC(n:Nd)(l:YF):Nd:={ n with data:=n.data++YS (Up l.v),Zs:=Y (.TC ⟨l.v.b,Jz n.Zq.l l.v⟩ l.Jq l.v) }
theorem XR(n:Nd)(l:YF):(∀m∈(Zw n l).ls,m.Z7≠0/\m.Z7≠2)/\(XD n (Zw n l).n \/
  (l.Z7=0/\YG n.Zq.p n.Zq.l l.b=0/\n.Zq.p≠l.b/\Ji n.data n.YZ l.b=0/\(Zw n l).n=ZmB n l) \/
  (l.Z7=2/\Xj n.Zq.p n.Zq.l l.v=0/\l.v ∉ n.Zq.l/\QZ n.data n.YZ l.v=0/\(Zw n l).n=ZmC n l)):=by
 have one:∀(k:Int) (f t:Int) (b:Yw) (v:Vt) (vs:List Vt),k≠0->k≠2->∀m∈[(⟨k,f,t,b,v,vs⟩:YF)],m.Z7≠0/\m.Z7≠2:=fun k f t b v vs h1 h2 m hm=>by
  rw[aI.1 hm];exact⟨h1,h2⟩
 have nil:∀m∈([]:List YF),m.Z7≠0/\m.Z7≠2:=fun m hm=>by cases hm
 unfold Zw;split
 .rename_i hk;unfold YB;split
  .exact⟨one _ _ _ _ _ _ aaa aaa,.inl (XD.refl n)⟩
  .split
   .exact⟨one _ _ _ _ _ _ aaa aaa,.inl (XD.refl n)⟩
   .split
    .exact⟨nil,.inl (XD.refl n)⟩
    .rename_i q1 q2 q3;exact⟨nil,.inr (.inl ⟨hk,nc,q2,nc,rfl⟩)⟩
 split
 .obtain⟨h1,h2⟩:=Ov n l;exact⟨by rw[h2];exact nil,.inl h1⟩
 split
 .rename_i hk;unfold asked;split
  .exact⟨one _ _ _ _ _ _ aaa aaa,.inl (XD.refl n)⟩
  .split
   .exact⟨one _ _ _ _ _ _ aaa aaa,.inl (XD.refl n)⟩
   .split
    .exact⟨nil,.inl (XD.refl n)⟩
    .rename_i q1 q2 q3;exact⟨nil,.inr (.inr ⟨hk,nc,q2,nc,rfl⟩)⟩
 split
 .exact⟨nil,.inl (D4 n l.v.cm).1⟩
 split
 .refine⟨?_,.inl (dj n l)⟩;unfold Qp;split
  .exact one _ _ _ _ _ _ aaa aaa
  .exact nil
 split
 .obtain⟨h1,_,h3⟩:=Ue n l.v.Zu l.v.cm;exact⟨by rw[h3];exact nil,.inl h1⟩
 .exact⟨nil,.inl (Ou n l)⟩
theorem IT(n:Nd)(r:Xw)(x:Cm):XQ r (J4 n r x):=by
 unfold J4;split
 .rename_i s hs;refine⟨rfl,fun t y h=>?_,fun h=>h,fun _ h=>h,fun _ _ h=>h⟩;show Yh (ins r.ZW (s:Int) x) t=Y y;rw[Xf];split
  .rename_i e;have:=(OY _ _ _ hs).2.2.1;rw[<-e,this]at h
   cases h
  .exact h
 .exact XQ.refl r
theorem WR(n:Nd):∀(l:List Cm) (r:Xw),XQ r (Jd n r l):=by
 intro l
 induction l with
 | nil=>intro r;exact XQ.refl r
 | cons x l ih=>intro r;exact (IT n r x).trans (ih _)
def Blank(o:Option Xw):Prop:=∀r,o=Y r->r.XM=false->∀s,Yh r.ZW s=Z
theorem IU(n:Nd)(r:Xw)(hb:r.XM=false->∀s,Yh r.ZW s=Z):XQ r (X2 n r)/\(X2 n r).XM=true:=by
 have hp:∀(l:List Cm) (r:Xw),r.XM=true->(Jd n r l).XM=true:=fun l r h=>(WR n l r).XM h;unfold X2;by_cases q:r.XM=true
 .rw[if_pos q];exact⟨WR n _ r,hp _ _ q⟩
 .rw[if_neg q];have q0:r.XM=false:=by simpa using q
  refine⟨XQ.trans (b:=Wa n r) ⟨rfl,fun s x h=>?_,fun h=>absurd h q,fun _ h=>h,fun _ _ h=>h⟩ (WR n _ _),hp _ _ rfl⟩;rw[hb q0 s]at h
  cases h
theorem O0(n:Nd)(r:Xw):(X2 n r).Y5=r.Y5/\(X2 n r).ZI=r.ZI:=by
 have hp:∀(l:List Cm) (r:Xw),(Jd n r l).Y5=r.Y5/\(Jd n r l).ZI=r.ZI:=by
  intro l
  induction l with
  | nil=>intro r;exact⟨rfl,rfl⟩
  | cons x l ih=>
   intro r;have e:(J4 n r x).Y5=r.Y5/\(J4 n r x).ZI=r.ZI:=by unfold J4;split<;>exact⟨rfl,rfl⟩
   obtain⟨h1,h2⟩:=ih (J4 n r x);exact⟨by rw[<-e.1];exact h1,by rw[<-e.2];exact h2⟩
 unfold X2;obtain⟨h1,h2⟩:=hp n.Zx (if r.XM=true then r else Wa n r);rw[h1,h2];split<;>exact⟨rfl,rfl⟩
structure FU(n m:Nd):Prop where
 up:m.up=n.up
 me:m.me=n.me
 ZB:m.ZB=n.ZB
 Zi:m.Zi=n.Zi
 Zx:m.Zx=n.Zx
 Zj:m.Zj=n.Zj
 Zq:m.Zq=n.Zq
 YZ:m.YZ=n.YZ
 SG:(n.Zh=Z/\m.Zh=Z)\/(∃r,n.Zh=Y r/\ZL r.b n.Zq.p/\m.Zh=Z)\/∃r r',n.Zh=Y r/\¬ZL r.b n.Zq.p/\m.Zh=Y r'/\XQ r r'/\(r'=r\/r'.XM=true)/\r'.Y5=r.Y5/\r'.ZI=r.ZI
 Zs:(m.Zs=Z/\m.data=n.data)\/∃r,n.Zh=Y r/\ZL n.Zq.p r.b/\Ji n.data n.YZ r.b=0/\m.data=n.data++YS (JL r.b) /\
  m.Zs=Y (.Zq (if YG n.Zq.p n.Zq.l r.b=0 then ⟨r.b,n.Zq.l⟩ else JE) (if YG n.Zq.p n.Zq.l r.b=0 then n.Zq.l else []) true)
theorem Vn(n:Nd):(n.Zh=Z/\Zo n=n)\/(∃r,n.Zh=Y r/\ZL r.b n.Zq.p/\Zo n = { n with Zh:=Z })\/∃r,n.Zh=Y r/\¬ZL r.b n.Zq.p/\Zo n=n:=by
 unfold Zo
 cases hr:n.Zh with
 | none=>exact .inl ⟨rfl,rfl⟩
 | some r=>
  simp only;by_cases q:ZL r.b n.Zq.p
  .rw[if_pos q];exact .inr (.inl ⟨r,rfl,q,rfl⟩)
  .rw[if_neg q];exact .inr (.inr ⟨r,rfl,q,rfl⟩)
theorem FU.Ys{m:Nd}(h:FU n m):FU n (JW m):=⟨h.up,h.me,h.ZB,h.Zi,h.Zx,h.Zj,h.Zq,h.YZ,h.SG,h.Zs⟩
def ZdV(n:Nd)(l:YF):Prop:=l.Z7=0\/l.Z7=2->∃r,n.Zh=Y r/\¬ZL r.b n.Zq.p/\¬ZL n.Zq.p r.b/\(l.Z7=0->l.b=r.b)/\(l.Z7=2->l.v.b=r.b)/\l.Jq=n.me
theorem jT(hp:n.Zs=Z)(hr:n.Zh=Y r)(hq:¬ZL r.b n.Zq.p)(hb:r.XM=false->∀s,Yh r.ZW s=Z):FU n (JM n r).n/\∀l∈(JM n r).ls,ZdV n l:=by
 have same:∀m:Nd,m.up=n.up->m.me=n.me->m.ZB=n.ZB->m.Zi=n.Zi->m.Zx=n.Zx->m.Zj=n.Zj->m.Zq=n.Zq->m.YZ=n.YZ->(∃r',m.Zh=Y r'/\XQ r r'/\(r'=r\/r'.XM=true)/\r'.Y5=r.Y5/\r'.ZI=r.ZI)->((m.Zs=Z/\m.data=n.data)\/∃r,n.Zh=Y r/\ZL n.Zq.p r.b/\Ji n.data n.YZ r.b=0/\m.data=n.data++YS (JL r.b) /\
  m.Zs=Y (.Zq (if YG n.Zq.p n.Zq.l r.b=0 then ⟨r.b,n.Zq.l⟩ else JE) (if YG n.Zq.p n.Zq.l r.b=0 then n.Zq.l else []) true))->FU n m:=fun m h1 h2 h3 h4 h5 h6 h7 h8 ⟨r',h9,h10⟩ h11=>
  ⟨h1,h2,h3,h4,h5,h6,h7,h8,.inr (.inr ⟨r,r',hr,hq,h9,h10⟩),h11⟩
 unfold JM;by_cases c1:ZL n.Zq.p r.b
 .rw[if_pos c1];by_cases c2:Ji n.data n.YZ r.b=0
  .rw[if_neg (by simp[c2])];exact⟨same _ rfl rfl rfl rfl rfl rfl rfl rfl ⟨r,hr,XQ.refl r,.inl rfl,rfl,rfl⟩ (.inr ⟨r,hr,c1,c2,rfl,rfl⟩),fun l hl=>by cases hl⟩
  .rw[if_pos c2];exact⟨same _ rfl rfl rfl rfl rfl rfl rfl rfl ⟨r,hr,XQ.refl r,.inl rfl,rfl,rfl⟩ (.inl ⟨hp,rfl⟩),fun l hl=>by cases hl⟩
 .rw[if_neg c1];by_cases c3:¬5<2*r.ZI.length
  .rw[if_pos c3];refine⟨same _ rfl rfl rfl rfl rfl rfl rfl rfl ⟨r,hr,XQ.refl r,.inl rfl,rfl,rfl⟩ (.inl ⟨hp,rfl⟩),fun l hl=>?_⟩;unfold RN at hl;obtain⟨m,_,hm⟩:=a7.1 hl;split at hm
   .rw[aI.1 hm];exact fun _=>⟨r,hr,hq,c1,fun _=>rfl,(fun h=>by cases h),rfl⟩
   .cases hm
  .rw[if_neg c3];obtain⟨h1,ZvI⟩:=IU n r hb;refine⟨same _ rfl rfl rfl rfl rfl rfl rfl rfl ⟨_,rfl,h1,.inr ZvI,(O0 n r).1,(O0 n r).2⟩ (.inl ⟨hp,rfl⟩),fun l hl=>?_⟩;unfold Tt at hl;obtain⟨s,_,hs⟩:=a7.1 hl;unfold Vx at hs;split at hs
   .split at hs
    .obtain⟨m,_,hm⟩:=a7.1 hs;unfold Pk at hm;split at hm
     .rw[aI.1 hm];exact fun _=>⟨r,hr,hq,c1,(fun h=>by cases h),fun _=>h1.b,rfl⟩
     .cases hm
    .cases hs
   .cases hs
theorem dk(hp:n.Zs=Z)(hb:Blank n.Zh):FU n (Z9 (Zo n)).n/\∀l∈(Z9 (Zo n)).ls,ZdV n l:=by
 have fwd:∀n:Nd,∀l∈Wu n,ZdV n l:=fun n l hl=>by
  unfold Wu at hl;obtain⟨x,_,rfl⟩:=aU.1 hl;exact fun h=>by rcases h with h|h<;>cases h
 rcases Vn n with⟨hr,e⟩|⟨r,hr,hq,e⟩|⟨r,hr,hq,e⟩
 .rw[e];unfold Z9;rw[hr];simp only;have D:FU n n:=⟨rfl,rfl,rfl,rfl,rfl,rfl,rfl,rfl,.inl ⟨hr,hr⟩,.inl ⟨hp,rfl⟩⟩
  split
  .exact⟨D,fwd n⟩
  .exact⟨D,fun l hl=>by cases hl⟩
 .rw[e];unfold Z9;simp only;have D:FU n { n with Zh:=Z }:=⟨rfl,rfl,rfl,rfl,rfl,rfl,rfl,rfl,.inr (.inl ⟨r,hr,hq,rfl⟩),.inl ⟨hp,rfl⟩⟩
  split
  .refine⟨D,fun l hl h=>?_⟩;unfold Wu at hl;obtain⟨x,_,rfl⟩:=aU.1 hl;rcases h with h|h<;>cases h
  .exact⟨D,fun l hl=>by cases hl⟩
 .rw[e];unfold Z9;rw[hr];simp only;exact jT hp hr hq (hb r hr)
theorem YY(hp:n.Zs=Z)(hb:Blank n.Zh):FU n (Yp n).n/\∀l∈(Yp n).ls,ZdV n l:=by
 obtain⟨D,h⟩:=dk hp hb;unfold Yp;split
 .exact⟨D,h⟩
 .refine⟨D.Ys,fun l hl=>?_⟩;rcases al.1 hl with hl|hl
  .exact h l hl
  .unfold UI at hl;split at hl
   .rw[aI.1 hl];exact fun h=>by rcases h with h|h<;>cases h
   .cases hl
def VK(n:Nd):Prop:=∀r,n.Zh=Y r->∀s,5<2*((Yh r.Y5 s).getD []).length->Has n.Zi s
theorem dm:∀(k:Nat) (n:Nd),Yh (Yg k n).1.Zi ((Yg k n).1.ZB.length:Int)=Z\/((Yg k n).1.ZB.length=n.ZB.length+k/\∀j,j<k->(Yh n.Zi ((n.ZB.length:Int)+j)).isSome=true):=by
 intro k
 induction k with
 | zero=>intro n;exact .inr ⟨rfl,fun j hj=>by omega⟩
 | succ k ih=>
  intro n;unfold Yg
  cases h:Yh n.Zi (n.ZB.length:Int) with
  | none=>exact .inl h
  | some x=>
   simp only;rcases ih (JU n x) with q|⟨q1,q2⟩
   .exact .inl q
   .have e:(JU n x).ZB.length=n.ZB.length+1:=by unfold JU;simp
    rw[e]at q1 q2;refine .inr ⟨nc,fun j hj=>?_⟩
    cases j with
    | zero=>simp[h]
    | succ j=>
     have:=q2 j nc;rw[show (n.ZB.length:Int)+((j+1:Nat):Int)=((n.ZB.length+1:Nat):Int)+(j:Int) by omega];exact this
theorem D5(n:Nd)(s:Int)(x:Cm):Yh (Jg n s x).n.Zi ((Jg n s x).n.ZB.length:Int)=Z:=by
 unfold Jg;rcases dm ((Jf n s x).Zi.length+1) (Jf n s x) with q|⟨_,q⟩
 .exact q
 .have:=Fm (Jf n s x).Zi (Jf n s x).ZB.length ((Jf n s x).Zi.length+1) q;omega
theorem Zaw(h:VK n)(s:Int)(x:Cm):VK (Jg n s x).n:=by
 have k:=(Ue n s x).1;have hr:(Jg n s x).n.Zh=n.Zh:=by
  have:∀(k:Nat) (n:Nd),(Yg k n).1.Zh=n.Zh:=by
   intro k
   induction k with
   | zero=>intro n;rfl
   | succ k ih=>
    intro n;unfold Yg;split
    .rfl
    .exact ih _
  exact this _ _
 intro r e t ht;rw[hr]at e;exact k.go.Zi t (h r e t ht)
theorem VK.same{m:Nd}(h:VK n)(h1:m.Zh=n.Zh)(h2:m.Zi=n.Zi):VK m:=fun r e t ht=>by
 rw[h1]at e;rw[h2];exact h r e t ht
theorem sj(h:VK n)(hg:Yh n.Zi (n.ZB.length:Int)=Z)(l:YF):VK (Zw n l).n/\Yh (Zw n l).n.Zi ((Zw n l).n.ZB.length:Int)=Z:=by
 have hn:VK (Xs n l)/\Yh (Xs n l).Zi ((Xs n l).ZB.length:Int)=Z:=by
  unfold Xs;split
  .exact⟨h.same rfl rfl,hg⟩
  .exact⟨h,hg⟩
 unfold Zw;split
 .unfold YB
  repeat' split
  all_goals exact⟨h.same rfl rfl,hg⟩
 split
 .unfold Yl
  cases hr:n.Zh with
  | none=>exact⟨h,hg⟩
  | some r=>
   simp only;split
   .split
    .refine⟨fun r' e t ht=>?_,hg⟩;obtain rfl:=Option.some.inj e;exact h r hr t ht
    .exact⟨h,hg⟩
   .split
    .exact⟨h,hg⟩
    .have hV:∀r',(Tq n r l).Zh=Y r'->∀t,t≠l.v.Zu->5<2*((Yh r'.Y5 t).getD []).length->Has n.Zi t:=fun r' e t ht hl=>by
      obtain rfl:=Option.some.inj e;have hl:5<2*((Yh (ins r.Y5 l.v.Zu (Q2 r l)) t).getD []).length:=hl;rw[Xf,if_neg (fun q=>ht q.symm)]at hl;exact h r hr t hl
     have hS:∀r',(Tq n r l).Zh=Y r'->(Yh r'.Y5 l.v.Zu).getD []=Q2 r l:=fun r' e=>by
      obtain rfl:=Option.some.inj e;show (Yh (ins r.Y5 l.v.Zu (Q2 r l)) l.v.Zu).getD []=_;rw[Xf,if_pos rfl];rfl
     split
     .refine⟨?_,D5 _ _ _⟩;have hre:(Jg (Tq n r l) l.v.Zu l.v.cm).n.Zh=(Tq n r l).Zh:=by
       have:∀(k:Nat) (n:Nd),(Yg k n).1.Zh=n.Zh:=by
        intro k
        induction k with
        | zero=>intro n;rfl
        | succ k ih=>
         intro n;unfold Yg;split
         .rfl
         .exact ih _
       exact this _ _
      obtain⟨k1,k2,_⟩:=Ue (Tq n r l) l.v.Zu l.v.cm;intro r' e t ht;rw[hre]at e;by_cases q:t=l.v.Zu
      .rw[q];exact k2
      .exact k1.go.Zi t (hV r' e t q ht)
     .rename_i q5;refine⟨fun r' e t ht=>?_,hg⟩;by_cases q:t=l.v.Zu
      .rw[q,hS r' e]at ht;exact absurd ht q5
      .exact hV r' e t q ht
 split
 .unfold asked
  repeat' split
  all_goals exact⟨h.same rfl rfl,hg⟩
 split
 .unfold add;split
  .exact⟨h,hg⟩
  .exact⟨h.same rfl rfl,hg⟩
 split
 .unfold Qp;split
  .exact hn
  .exact hn
 split
 .exact⟨Zaw h _ _,D5 _ _ _⟩
 .exact hn
structure PN(C:List Cm)(b:Yw)(L X:Nat)(n:Nd):Prop where
 ni:Ub C X n
 up:n.up=true
 Zq:¬ZL b n.Zq.p
 Y5:∀v∈n.Zq.l,¬ZL n.Zq.p v.b
 pnd:∀p,n.Zs=Y p->¬ZL b (WM p).p/\¬ZL (WM p).p n.Zq.p/\∀v∈(WM p).l,¬ZL (WM p).p v.b
 tape:0<=n.YZ/\n.YZ<=(U n.data)
 SG:X≠L->∀r,n.Zh=Y r->ZL r.b b
 Z4:X=L->∃r,n.Zh=Y r/\r.b=b
 Yr:Blank n.Zh
 may:∀r,n.Zh=Y r->ZF r.b
 vk:VK n
 mV:Yh n.Zi (n.ZB.length:Int)=Z
structure PJ(C:List Cm)(b:Yw)(l:YF):Prop where
 li:Ua C l
 VB:l.Z7=0->¬ZL b l.b
 ask:l.Z7=2->¬ZL b l.v.b
theorem PN.le{b:Yw}{L X:Nat}(h:PN C b L X n)(hr:n.Zh=Y r):¬ZL b r.b:=by
 by_cases e:X=L
 .obtain⟨r',h1,h2⟩:=h.Z4 e;rw[hr]at h1;rw[Option.some.inj h1,h2];exact Qu b
 .exact LF (h.SG e r hr)
theorem XD.back{m:Nd}(k:XD n m){r':Xw}(hr:m.Zh=Y r'):∃r,n.Zh=Y r/\VE r r':=by
 have q:=k.SG;rw[hr]at q
 cases e:n.Zh with
 | none=>rw[e]at q;exact q.elim
 | some r=>rw[e]at q;exact⟨r,rfl,q⟩
theorem XD.on{m:Nd}(k:XD n m)(hr:n.Zh=Y r):∃r',m.Zh=Y r'/\VE r r':=by
 have q:=k.SG;rw[hr]at q
 cases e:m.Zh with
 | none=>rw[e]at q;exact q.elim
 | some r'=>rw[e]at q;exact⟨r',rfl,q⟩
theorem PN.pr0{b:Yw}{L X:Nat}(h:PN C b L X n){c:Yw}(hc:ZF c)(hle:¬ZL c n.Zq.p):YG n.Zq.p n.Zq.l c=0:=by
 unfold YG;rw[if_neg (by rw[KD h.ni.Zq h.Y5];simp),if_neg (fun q=>q hc),if_neg hle]
theorem XD.pn{b:Yw}{L X:Nat}{m:Nd}(h:PN C b L X n)(hm:Ub C X m)(k:XD n m)(hv:VK m)(hg:Yh m.Zi (m.ZB.length:Int)=Z):PN C b L X m:=by
 refine⟨hm,by rw[k.go.up];exact h.up,by rw[k.Zq];exact h.Zq,by rw[k.Zq];exact h.Y5,fun p hp=>by rw[k.Zq];exact h.pnd p (by rw[<-k.Zs];exact hp),by rw[k.YZ,k.data];exact h.tape,fun hx r' hr=>?_,fun hx=>?_,fun r' hr hb s=>?_,fun r' hr=>?_,hv,hg⟩
 .obtain⟨r,h1,h2⟩:=k.back hr;rw[h2.k.b];exact h.SG hx r h1
 .obtain⟨r,h1,h2⟩:=h.Z4 hx;obtain⟨r',h3,h4⟩:=k.on h1;exact⟨r',h3,by rw[h4.k.b,h2]⟩
 .obtain⟨r,h1,h2⟩:=k.back hr;rw[h2.p];exact h.Yr r h1 (by rw[<-h2.g];exact hb) s
 .obtain⟨r,h1,h2⟩:=k.back hr;rw[h2.k.b];exact h.may r h1
section
variable {C:List Cm} {b:Yw} {L X:Nat}
theorem J8(hX:X<5)(hC:(U C)<=100000)(hb:ZF b):Laws (PN C b L X) (PJ C b) (PJ C b):=by
 refine⟨fun n k h=>⟨h.ni.Zg k,h.up,h.Zq,h.Y5,h.pnd,h.tape,h.SG,h.Z4,h.Yr,h.may,h.vk.same rfl rfl,h.mV⟩,fun n l h hp hl=>?_,fun n h hp=>?_,fun n p h hp=>?_⟩
 .have O:=LB hX h.ni hl.li;obtain⟨hk,hc⟩:=XR n l;obtain⟨hv,BZ⟩:=sj h.vk h.mV l;refine⟨?_,fun m hm=>⟨O.ls m hm,fun e=>absurd e (hk m hm).1,fun e=>absurd e (hk m hm).2⟩⟩;rcases hc with k|⟨c1,c2,c3,c4,e⟩|⟨c1,c2,c3,c4,e⟩
  .exact k.pn h O.nd hv BZ
  .have hN:=O.nd;rw[e]at hN hv BZ ⊢;refine⟨hN,h.up,h.Zq,h.Y5,fun p hq=>?_,?_,h.SG,h.Z4,h.Yr,h.may,hv,BZ⟩
   .obtain rfl:LV.VB ⟨l.b,n.Zq.l⟩ l.Jq l.b n.Zq.l=p:=Option.some.inj hq;exact⟨hl.VB c1,LG c2,fun v hv=>X4 (h.Y5 v hv) (LG c2)⟩
   .have:=h.tape;show 0<=n.YZ/\n.YZ<=((n.data++YS (JL l.b)).length:Nat)
    rw[au];omega
  .have hN:=O.nd;rw[e]at hN hv BZ ⊢;refine⟨hN,h.up,h.Zq,h.Y5,fun p hq=>?_,?_,h.SG,h.Z4,h.Yr,h.may,hv,BZ⟩
   .obtain rfl:LV.TC ⟨l.v.b,Jz n.Zq.l l.v⟩ l.Jq l.v=p:=Option.some.inj hq;refine⟨hl.ask c1,LH c2,fun v hv=>?_⟩;have hv:v∈Jz n.Zq.l l.v:=hv;show ¬ZL l.v.b v.b;unfold Jz at hv;rcases al.1 hv with hv|hv
    .exact X4 (h.Y5 v (a3.1 hv).1) (LH c2)
    .rcases ba.1 hv with rfl|hv
     .exact Qu _
     .exact X4 (h.Y5 v (a3.1 hv).1) (LH c2)
   .have:=h.tape;show 0<=n.YZ/\n.YZ<=((n.data++YS (Up l.v)).length:Nat)
    rw[au];omega
 .obtain⟨d1,d2,_⟩:=jo hX hC h.ni;obtain⟨D,hA⟩:=YY hp h.Yr;refine⟨⟨d1,by rw[D.up];exact h.up,by rw[D.Zq];exact h.Zq,by rw[D.Zq];exact h.Y5,fun p hq=>?_,?_,fun hx r' hr=>?_,fun hx=>?_,fun r' hr iJ s=>?_,fun r' hr=>?_,fun r' hr t ht=>?_,by rw[D.Zi,D.ZB];exact h.mV⟩,fun l hl=>⟨d2 l hl,fun e=>?_,fun e=>?_⟩⟩
  .rcases D.Zs with⟨e,_⟩|⟨r,hr,c1,c2,_,e⟩
   .rw[e]at hq;cases hq
   .rw[e]at hq;obtain rfl:=Option.some.inj hq;rw[D.Zq];rw[if_pos (h.pr0 (h.may r hr) (LF c1))];exact⟨h.le hr,LF c1,fun v hv=>X4 (h.Y5 v hv) (LF c1)⟩
  .rw[D.YZ];have:=h.tape;rcases D.Zs with⟨_,e⟩|⟨r,_,_,_,e,_⟩
   .rw[e];exact this
   .rw[e,au];omega
  .rcases D.SG with⟨_,e⟩|⟨_,_,_,e⟩|⟨r,r2,h1,_,e,k,_,_,_⟩
   .rw[e]at hr;cases hr
   .rw[e]at hr;cases hr
   .rw[e]at hr;obtain rfl:=Option.some.inj hr;rw[k.b];exact h.SG hx r h1
  .obtain⟨r,h1,h2⟩:=h.Z4 hx;rcases D.SG with⟨e,_⟩|⟨r2,e,q,_⟩|⟨r2,r3,e,q,e3,k,_,_,_⟩
   .rw[e]at h1;cases h1
   .rw[e]at h1;obtain rfl:=Option.some.inj h1;rw[h2]at q;exact absurd q h.Zq
   .rw[e]at h1;obtain rfl:=Option.some.inj h1;exact⟨r3,e3,by rw[k.b,h2]⟩
  .rcases D.SG with⟨_,e⟩|⟨_,_,_,e⟩|⟨r,r2,h1,_,e,_,k,_,_⟩
   .rw[e]at hr;cases hr
   .rw[e]at hr;cases hr
   .rw[e]at hr;obtain rfl:=Option.some.inj hr;rcases k with rfl|k
    .exact h.Yr _ h1 iJ s
    .rw[k]at iJ;cases iJ
  .rcases D.SG with⟨_,e⟩|⟨_,_,_,e⟩|⟨r,r2,h1,_,e,k,_,_,_⟩
   .rw[e]at hr;cases hr
   .rw[e]at hr;cases hr
   .rw[e]at hr;obtain rfl:=Option.some.inj hr;rw[k.b];exact h.may r h1
  .rcases D.SG with⟨_,e⟩|⟨_,_,_,e⟩|⟨r,r2,h1,_,e,_,_,k,_⟩
   .rw[e]at hr;cases hr
   .rw[e]at hr;cases hr
   .rw[e]at hr;obtain rfl:=Option.some.inj hr;rw[k]at ht;rw[D.Zi];exact h.vk r h1 t ht
  .obtain⟨r,h1,_,_,h2,_⟩:=hA l hl (.inl e);rw[h2 e];exact h.le h1
  .obtain⟨r,h1,_,_,_,h2,_⟩:=hA l hl (.inr e);rw[h2 e];exact h.le h1
 .obtain⟨f1,f2,f3,f4,_⟩:=Fz hX (Fy h.ni) (h.ni.Zs p hp);have Pw:=h.pnd p hp;refine⟨?_,fun m hm=>⟨f2 m hm,fun e=>?_,fun e=>?_⟩⟩
  .have ht:0<=(ZO n).YZ/\(ZO n).YZ<=(ZO n).data.length:=by
    show 0<=(if YW n.data n.YZ then ((U n.data):Int) else 0)/\(if YW n.data n.YZ then ((U n.data):Int) else 0)<=((if YW n.data n.YZ then n.data else []).length:Nat)
    split<;>simp
   cases p with
   | VB a to b' vs=>exact⟨f1,h.up,Pw.1,Pw.2.2,(fun q hq=>by cases hq),ht,h.SG,h.Z4,h.Yr,h.may,h.vk.same rfl rfl,h.mV⟩
   | TC a to v=>exact⟨f1,h.up,Pw.1,Pw.2.2,(fun q hq=>by cases hq),ht,h.SG,h.Z4,h.Yr,h.may,h.vk.same rfl rfl,h.mV⟩
   | Zq a vs cur=>
    have hre:∀r',(YK (ZO n) (.Zq a vs cur)).n.Zh=Y r'->∃r,n.Zh=Y r/\VE r r'/\r'.Y5=r.Y5:=fun r' hr=>by
     have hr:(if cur=true then n.Zh.map (fun r=>{ r with ZI:=ins r.ZI n.me vs }) else n.Zh)=Y r':=hr;split at hr
     .cases e:n.Zh with
      | none=>rw[e]at hr;cases hr
      | some r=>
       rw[e]at hr;obtain rfl:=Option.some.inj hr;exact⟨r,rfl,⟨⟨rfl,fun _ _ h=>h,fun h=>h,fun k h=>Has.ins h _ _,fun _ _ h=>h⟩,rfl,rfl⟩,rfl⟩
     .exact⟨r',hr,VE.refl r',rfl⟩
    refine⟨f1,h.up,Pw.1,Pw.2.2,(fun q hq=>by cases hq),ht,fun hx r' hr=>?_,fun hx=>?_,fun r' hr iJ s=>?_,fun r' hr=>?_,fun r' hr t ht=>?_,h.mV⟩
    .obtain⟨r,h1,h2,_⟩:=hre r' hr;rw[h2.k.b];exact h.SG hx r h1
    .obtain⟨r,h1,h2⟩:=h.Z4 hx;show ∃r,(if cur=true then n.Zh.map (fun r=>{ r with ZI:=ins r.ZI n.me vs }) else n.Zh)=Y r/\r.b=b;rw[h1];split
     .exact⟨_,rfl,h2⟩
     .exact⟨r,rfl,h2⟩
    .obtain⟨r,h1,h2,_⟩:=hre r' hr;rw[h2.p];exact h.Yr r h1 (by rw[<-h2.g];exact iJ) s
    .obtain⟨r,h1,h2,_⟩:=hre r' hr;rw[h2.k.b];exact h.may r h1
    .obtain⟨r,h1,_,h3⟩:=hre r' hr;rw[h3]at ht;exact h.vk r h1 t ht
  .cases p with
   | VB a to b' vs=>rw[aI.1 hm]at e;cases e
   | TC a to v=>rw[aI.1 hm]at e;cases e
   | Zq a vs cur=>cases hm
  .cases p with
   | VB a to b' vs=>rw[aI.1 hm]at e;cases e
   | TC a to v=>rw[aI.1 hm]at e;cases e
   | Zq a vs cur=>cases hm
end
end Go.Proofs.YthlfaofofaphfaaGreatDoor

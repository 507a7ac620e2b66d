import Derived.Test.YtdapjaalaomghaaGreatDoorTxb
import Derived.Test.YtdapjaalaomghaaGreatDoorMop
open Go.Value renaming int→ab,slice→al
open Go.IntKind renaming i64→Z
open Go.Obj renaming cells→a5
open Go.Proofs.Tryz renaming prog→a9,underlying33→bn
open List renaming length→Q,mem_append→aa,length_append→ae,mem_singleton→am,mem_map→ao,append_assoc→aU,mem_filter→a0,getElem?_eq_getElem→a1,foldl_cons→a2,mem_flatMap→a3,length_map→a4,mem_cons→a7,map_append→a8,nil_append→bb,append_nil→bc,mem_range→bd,getD_eq_getElem?_getD→be,getElem?_map→bf,mem_flatten→bg,length_singleton→bh,getElem?_range→bk,range→bl,getElem_mem→bo,cons_append→bp,filter_cons→br,range'→bt,range_succ→bw
open Nat renaming le_refl→ba
open Int renaming toNat_natCast→aq
open Option renaming some→U,none→Y
open Classical renaming byContradiction→a6
open Go renaming Value→aw
namespace Go.Proofs.YtdapjaalaomghaaGreatDoor
open Go Go.V
set_option linter.all false
variable{C:List Cm}{l:List Raw}{n:Nd}{r:Xw}
theorem nu{β:Type}:∀{l:List (Int × β)} {k:Int},k∈l.map (·.1)->∃v,Yg l k=U v:=by
 intro l k h
 cases e:Yg l k with
 | some v=>exact⟨v,rfl⟩
 | none=>
  obtain⟨x,hx,rfl⟩:=ao.1 h;exact (xd e x hx rfl).elim
theorem ny{β:Type}{l:List (Int × β)}{k:Int}{v:β}(h:Yg l k=U v):k∈l.map (·.1):=ao.2 ⟨(k,v),RQ h,rfl⟩
theorem SX.maj{β:Type}{l:List (Int × β)}(h:SX 5 l)(hm:5<2*(Q l)):Maj (l.map fun x=>x.1.toNat):=by
 refine⟨?_,fun i hi=>?_,by rw[a4];omega⟩
 .have:(l.map fun x=>x.1.toNat)=(l.map (·.1)).map Int.toNat:=by rw[List.map_map];rfl
  rw[this];refine List.pairwise_map.2 ?_;have h2:=h.2;have h1:=h.1;rw[List.nodup_iff_pairwise_ne]at h1;refine List.Pairwise.imp_of_mem ?_ h1;intro a b ha hb Y4 he;have:=h2 a ha;have:=h2 b hb;omega
 .obtain⟨x,hx,rfl⟩:=ao.1 hi;have:=h.2 x.1 (ao.2 ⟨x,hx,rfl⟩);omega
theorem SX.back{β:Type}{l:List (Int × β)}(h:SX 5 l){i:Nat}(hi:i∈l.map fun x=>x.1.toNat):∃v,Yg l (i:Int)=U v:=by
 obtain⟨x,hx,rfl⟩:=ao.1 hi;have:=h.2 x.1 (ao.2 ⟨x,hx,rfl⟩);have e:((x.1.toNat:Nat):Int)=x.1:=nT;rw[e];exact nu (ao.2 ⟨x,hx,rfl⟩)
structure AR(g:Gh)(i:Nat)(a:UH):Prop where
 has:∀v∈a.l,g.V i v.b v.Zt v.cm
 all:∀b s x,g.V i b s x->∃v∈a.l,v.Zt=s/\¬ZE v.b b
theorem AR.pf{S:Cm->Prop}{g:Gh}{M:Nat->Yn}{i:Nat}{a:UH}(G:GI S g M)(h:AR g i a)(hi:i<5)(hm:M i=a.p):PF g M i a.p a.l:=
 ⟨hi,by rw[hm];exact JW _,fun v hv=>⟨h.has v hv,by rw[<-hm];exact G.Z1 _ _ _ _ (h.has v hv)⟩,fun b' s x _ hv=>h.all b' s x hv⟩
structure RR(g:Gh)(M:Nat->Yn)(i:Nat)(n:Nd)(r:Xw):Prop where
 ZV:r.b.n=i
 may:ZD r.b
 ZF:∀j vs,Yg r.ZF j=U vs->PF g M j.toNat r.b vs
 pn:r.Xg=false->∀s x,¬g.P r.b s x
 pr:∀s x,g.P r.b s x->Yg r.ZT s=U x
 safe:∀s x,Yg r.ZT s=U x->g.P r.b s x
 free:r.Xg=true->∀s:Int,(n.Zw.length:Int)<=s->Yg r.ZT s=Y->Yg n.Zh s=Y->IY g M r.b s
 YZ:∀s K j,Yg r.YZ s=U K->Yg K j=U ()->∃x,g.V j.toNat r.b s x
def PR(g:Gh)(n:Nd):Kf->Prop
 | .Vy a to b vs=>a=⟨b,n.Zm.l⟩/\vs=n.Zm.l/\YG n.Zm.p n.Zm.l b=0
 | .TC a to v=>a=⟨v.b,JA n.Zm.l v⟩/\Xi n.Zm.p n.Zm.l v=0/\g.P v.b v.Zt v.cm
 | .Zm a vs cur=>∃b,a=⟨b,n.Zm.l⟩/\vs=n.Zm.l/\YG n.Zm.p n.Zm.l b=0/\(cur=true->∃r,n.Zg=U r/\r.b=b)
structure LR(S:Cm->Prop)(g:Gh)(M:Nat->Yn)(l:YF):Prop where
 Vy:l.ZR=1->PF g M l.Jp.toNat l.b l.vs
 ask:l.ZR=2->g.P l.v.b l.v.Zt l.v.cm
 TC:l.ZR=3->g.V l.Jp.toNat l.v.b l.v.Zt l.v.cm
 fwd:l.ZR=4->S l.v.cm
 cho:l.ZR=6->Jf g l.v.Zt l.v.cm
theorem LR.plain{S:Cm->Prop}{g:Gh}{M:Nat->Yn}{l:YF}(h:l.ZR=0\/l.ZR=5\/l.ZR=7):LR S g M l:=
 ⟨fun e=>by omega,fun e=>by omega,fun e=>by omega,fun e=>by omega,fun e=>by omega⟩
structure NR(S:Cm->Prop)(g:Gh)(M:Nat->Yn)(i:Nat)(n:Nd):Prop where
 acc:AR g i (Ww n)
 m:M i=(Ww n).p
 tape:TR n
 Zp:∀p,n.Zp=U p->PR g n p
 Zh:∀s x,Yg n.Zh s=U x->Jf g s x
 Zw:∀(k:Nat) x,n.Zw[k]? = U x->Jf g (k:Int) x
 AB:∀x∈n.Zr,S x
 Zg:∀r,n.Zg=U r->RR g M i n r
theorem Jn(h:n.up=true):Ww n=n.Zm:=by unfold Ww;rw[if_pos h]
section
variable {i j:Nat} {g g':Gh} {M M':Nat->Yn} {S:Cm->Prop}
theorem LR.ext(E:Ext i g M g' M'){l:YF}(h:LR S g M l):LR S g' M' l:=
 ⟨fun e=>(h.Vy e).ext E,fun e=>E.p _ _ _ (h.ask e),fun e=>E.v _ _ _ _ (h.TC e),h.fwd,fun e=>(h.cho e).ext E⟩
theorem NR.ext(E:Ext i g M g' M')(hj:j≠i)(h:NR S g M j n):NR S g' M' j n:=by
 have ho:=E.oth j hj;refine⟨⟨fun v hv=>E.v _ _ _ _ (h.acc.has v hv),fun b s x hv=>h.acc.all b s x (ho.2 _ _ _ hv)⟩,by rw[ho.1];exact h.m,h.tape,fun p hp=>?_,fun s x e=>(h.Zh s x e).ext E,fun k x e=>(h.Zw k x e).ext E,h.AB,fun r hr=>?_⟩
 .have:=h.Zp p hp
  cases p with
  | Vy a to b vs=>exact this
  | TC a to v=>exact⟨this.1,this.2.1,E.p _ _ _ this.2.2⟩
  | Zm a vs cur=>exact this
 .have R:=h.Zg r hr;have hP:∀s x,g'.P r.b s x->g.P r.b s x:=fun s x e=>by
   rcases E.Zm _ _ _ e with e|e
   .exact e
   .rw[R.ZV]at e;omega
  exact⟨R.ZV,R.may,fun k vs e=>(R.ZF k vs e).ext E,fun e s x q=>R.pn e s x (hP s x q),fun s x q=>R.pr s x (hP s x q),fun s x q=>E.p _ _ _ (R.safe s x q),fun e s h1 h2 h3=>(R.free e s h1 h2 h3).ext E,fun s K k h1 h2=>by
   obtain⟨x,hx⟩:=R.YZ s K k h1 h2;exact⟨x,E.v _ _ _ _ hx⟩⟩
end
structure HR(S:Cm->Prop)(g:Gh)(M:Nat->Yn)(i:Nat)(o:Out):Prop where
 n:NR S g M i o.n
 up:o.n.up=true
 ls:∀l∈o.ls,LR S g M l
section
variable {S:Cm->Prop} {g:Gh} {M:Nat->Yn} {i:Nat} {n:Nd}
theorem HR.same(N:NR S g M i n)(hu:n.up=true):HR S g M i ⟨n,[],[]⟩:=⟨N,hu,fun l hl=>by cases hl⟩
theorem HR.one(N:NR S g M i n)(hu:n.up=true){l:YF}(hl:LR S g M l):HR S g M i ⟨n,[l],[]⟩:=⟨N,hu,fun x hx=>by
 have:x=l:=by simpa using hx
 rw[this];exact hl⟩
theorem L1{p b:Yn}{l:List Vt}(h:YG p l b=0):¬ZE b p:=by
 unfold YG at h;split at h
 .omega
 .split at h
  .omega
  .split at h
   .omega
   .assumption
theorem L4{p:Yn}{l:List Vt}{v:Vt}(h:Xi p l v=0):¬ZE v.b p:=by
 unfold Xi at h;split at h
 .omega
 .split at h
  .omega
  .split at h
   .omega
   .assumption
theorem NR.wait(N:NR S g M i n)(hu:n.up=true)(hp:n.Zp=Y){p:Kf}{f:List Nat}(hb:JC n.Zm f=U (WY p))(hl:(n.data++YR f).length<=100000)(hr:PR g n p):NR S g M i { n with data:=n.data++YR f,Zp:=U p }:=by
 obtain⟨h1,h2⟩:=N.tape.idle hu hp;have eA:Ww { n with data:=n.data++YR f,Zp:=U p } = Ww n:=by rw[Jn hu,Jn (n:={ n with data:=n.data++YR f,Zp:=U p }) hu]
 refine⟨by rw[eA];exact N.acc,by rw[eA];exact N.m,⟨fun _ e=>(by cases e),fun _ q hq=>?_,fun e=>?_,hl⟩,fun q hq=>?_,N.Zh,N.Zw,N.AB,fun r hr=>?_⟩
 .cases hq
  exact⟨n.data,f,rfl,h2,h1,hb⟩
 .rw[show ({ n with data:=n.data++YR f,Zp:=U p }:Nd).up=n.up from rfl,hu]at e
  cases e
 .cases hq
  cases p<;>exact hr
 .have R:=N.Zg r hr;exact⟨R.ZV,R.may,R.ZF,R.pn,R.pr,R.safe,R.free,R.YZ⟩
theorem j2(hi:i<5)(G:GI S g M)(N:NR S g M i n)(hu:n.up=true)(hp:n.Zp=Y)(Hv:n.me=i){l:YF}:HR S g M i (YA n l):=by
 have eA:=Jn hu;have Up:=N.acc;have hM:=N.m;rw[eA]at Up hM;unfold YA;split
 .exact .one N hu (.plain (.inr (.inr rfl)))
 .rename_i c1;split
  .rename_i c2;refine .one N hu ⟨fun _=>?_,fun e=>(by cases e),fun e=>(by cases e),fun e=>(by cases e),fun e=>(by cases e)⟩;have:=Up.pf G hi hM;rw[c2]at this;show PF g M (((n.me:Nat):Int)).toNat l.b n.Zm.l;rw[aq,Hv];exact this
  .split
   .exact .same N hu
   .rename_i c3;have e1:YG n.Zm.p n.Zm.l l.b=0:=by simpa using c1
    have e3:Jj n.data n.YS l.b=0:=by simpa using c3
    refine⟨N.wait hu hp (f:=JQ l.b) (dF e1) ?_ ⟨rfl,rfl,e1⟩,hu,fun l hl=>by cases hl⟩;rw[ae,Nl];exact LV e3
theorem Zep(hi:i<5)(G:GI S g M)(N:NR S g M i n)(hu:n.up=true)(hp:n.Zp=Y)(Hv:n.me=i){l:YF}(L:g.P l.v.b l.v.Zt l.v.cm):HR S g M i (asked n l):=by
 have eA:=Jn hu;have Up:=N.acc;rw[eA]at Up;unfold asked;split
 .exact .one N hu (.plain (.inr (.inr rfl)))
 .rename_i c1;split
  .rename_i c2;refine .one N hu ⟨fun e=>(by cases e),fun e=>(by cases e),fun _=>?_,fun e=>(by cases e),fun e=>(by cases e)⟩;show g.V (((n.me:Nat):Int)).toNat l.v.b l.v.Zt l.v.cm;rw[aq,Hv];exact Up.has _ c2
  .split
   .exact .same N hu
   .rename_i c3;have e1:Xi n.Zm.p n.Zm.l l.v=0:=by simpa using c1
    have e3:QW n.data n.YS l.v=0:=by simpa using c3
    refine⟨N.wait hu hp (f:=Uq l.v) (Zax e1) ?_ ⟨rfl,e1,L⟩,hu,fun l hl=>by cases hl⟩;rw[ae,BX];exact dy e3
theorem NR.more(N:NR S g M i n)(hp:n.Zp=Y){m:Nd}(h1:m.up=n.up)(h2:m.data=n.data)(h3:m.YS=n.YS)(h4:m.Zm=n.Zm)(h5:m.Zg=n.Zg)(h6:m.Zp=n.Zp)(k1:∀s x,Yg m.Zh s=U x->Jf g s x)(k2:∀s,Yg m.Zh s=Y->Yg n.Zh s=Y)(k3:∀(k:Nat) x,m.Zw[k]? = U x->Jf g (k:Int) x)(k4:n.Zw.length<=m.Zw.length)(k5:∀x∈m.Zr,S x):NR S g M i m:=by
 have eA:Ww m=Ww n:=by unfold Ww;rw[h1,h2,h4]
 have T:=N.tape;refine⟨by rw[eA];exact N.acc,by rw[eA];exact N.m,⟨fun e1 e2=>?_,fun _ p e=>?_,fun e=>?_,by rw[h2];exact T.len⟩,fun p e=>?_,k1,k3,k5,fun r e=>?_⟩
 .rw[h2,h3,h4];exact T.idle (by rw[<-h1];exact e1) hp
 .rw[h6,hp]at e;cases e
 .rw[h2,h3,h6];exact T.down (by rw[<-h1];exact e)
 .rw[h6,hp]at e;cases e
 .have R:=N.Zg r (by rw[<-h5];exact e);exact⟨R.ZV,R.may,R.ZF,R.pn,R.pr,R.safe,fun q s q1 q2 q3=>R.free q s nT q2 (k2 s q3),R.YZ⟩
theorem ZaC(N:NR S g M i n)(hp:n.Zp=Y){x:Cm}(hx:Yg n.Zh (n.Zw.length:Int)=U x):NR S g M i (JZ n x):=by
 refine N.more hp rfl rfl rfl rfl rfl rfl N.Zh (fun s h=>h) (fun k y e=>?_) (by show n.Zw.length<=(n.Zw++[x]).length;simp) (fun y hy=>N.AB y (a0.1 hy).1);have e:(n.Zw++[x])[k]? = U y:=e;rw[List.getElem?_append]at e;split at e
 .exact N.Zw k y e
 .rename_i q;have:k=n.Zw.length:=by
   refine a6 fun Y4=>?_;rw[List.getElem?_eq_none Ig]at e
   cases e
  subst this;rw[Nat.sub_self]at e
  cases e
  exact N.Zh _ _ hx
theorem sA:∀(k:Nat) (n:Nd),NR S g M i n->n.Zp=Y->n.up=true->NR S g M i (Ye k n).1/\(Ye k n).1.Zp=Y/\(Ye k n).1.up=true:=by
 intro k
 induction k with
 | zero=>intro n N hp hu;exact⟨N,hp,hu⟩
 | succ k ih=>
  intro n N hp hu;unfold Ye;split
  .exact⟨N,hp,hu⟩
  .rename_i x hx;exact ih _ (ZaC N hp hx) hp hu
theorem nz(N:NR S g M i n)(hp:n.Zp=Y)(hu:n.up=true){s:Int}{x:Cm}(hc:Jf g s x):HR S g M i (X8 n s x):=by
 have N1:NR S g M i (Jd n s x):=by
  refine N.more hp rfl rfl rfl rfl rfl rfl (fun t y e=>?_) (fun t e=>?_) N.Zw (ba _) N.AB
  .have e:Yg (ins n.Zh s x) t=U y:=e;rw[Xb]at e;split at e
   .rename_i q;cases e;rw[<-q];exact hc
   .exact N.Zh t y e
  .have e:Yg (ins n.Zh s x) t=Y:=e;rw[Xb]at e;split at e
   .cases e
   .exact e
 obtain⟨h1,_,h3⟩:=sA ((Jd n s x).Zh.length+1) _ N1 hp hu;exact⟨h1,h3,fun l hl=>by cases hl⟩
theorem NR.Znl(N:NR S g M i n)(hp:n.Zp=Y)(R:RR g M i n r):NR S g M i { n with Zg:=U r }:=
 ⟨N.acc,N.m,⟨N.tape.idle,N.tape.busy,N.tape.down,N.tape.len⟩,fun p e=>(by rw[show ({ n with Zg:=U r }:Nd).Zp=n.Zp from rfl,hp]at e;cases e),N.Zh,N.Zw,N.AB,fun r' e=>by
  obtain rfl:=Option.some.inj e;exact⟨R.ZV,R.may,R.ZF,R.pn,R.pr,R.safe,R.free,R.YZ⟩⟩
theorem j3(G:GI S g M)(N:NR S g M i n)(hp:n.Zp=Y)(hu:n.up=true)(NI:Ua C i n){l:YF}(LI:Q8 C l)(L:LR S g M l)(hk:l.ZR=1\/l.ZR=3):HR S g M i (Ym n l):=by
 unfold Ym;split
 .exact .same N hu
 .rename_i r hr;have R:=N.Zg r hr;have RI:=NI.Zg r hr;split
  .rename_i k1;split
   .rename_i k2;refine .same ?_ hu;refine N.Znl hp ⟨R.ZV,R.may,fun j vs e=>?_,R.pn,R.pr,R.safe,R.free,R.YZ⟩;have e:Yg (ins r.ZF l.Jp l.vs) j=U vs:=e;rw[Xb]at e;split at e
    .rename_i q;cases e;rw[<-q];have:=L.Vy k1;rw[k2]at this;exact this
    .exact R.ZF j vs e
   .exact .same N hu
  .rename_i k1;have k3:l.ZR=3:=nT;split
   .exact .same N hu
   .rename_i k2;have eb:l.v.b=r.b:=a6 fun q=>k2 q;have hv:=L.TC k3;rw[eb]at hv;have Oo:∀j,Yg (QY r l) j=U ()->∃x,g.V j.toNat r.b l.v.Zt x:=fun j e=>by
     unfold QY at e;rw[Xb]at e;split at e
     .rename_i q;rw[<-q];exact⟨_,hv⟩
     .cases q:Yg r.YZ l.v.Zt with
      | none=>rw[q]at e;cases e
      | some K=>rw[q]at e;exact R.YZ _ K j q e
    have N1:NR S g M i (TD n r l):=by
     refine N.Znl hp ⟨R.ZV,R.may,R.ZF,R.pn,R.pr,R.safe,R.free,fun s K j e1 e2=>?_⟩;have e1:Yg (ins r.YZ l.v.Zt (QY r l)) s=U K:=e1;rw[Xb]at e1;split at e1
     .rename_i q;cases e1;rw[<-q];exact Oo j e2
     .exact R.YZ s K j e1 e2
    split
    .rename_i k4;refine nz N1 hp hu ?_;have KI:SX 5 (QY r l):=by
      unfold QY;refine SX.ins ?_ LI.Jp ()
      cases q:Yg r.YZ l.v.Zt with
      | none=>exact SX.nil 5
      | some K=>exact RI.Rw _ (RQ q)
     refine⟨_,r.b,KI.maj k4,fun j hj=>?_⟩;obtain⟨u,hu⟩:=KI.back hj;obtain⟨x,hx⟩:=Oo j hu;rw[aq]at hx;have:=G.one _ _ _ _ (G.vp _ _ _ _ hx) (G.vp _ _ _ _ hv);rw[<-this];exact hx
    .exact .same N1 hu
theorem nA(N:NR S g M i n)(hp:n.Zp=Y)(l:YF):NR S g M i (Xk n l)/\(Xk n l).up=n.up:=by
 unfold Xk;split
 .exact⟨N.more hp rfl rfl rfl rfl rfl rfl N.Zh (fun s h=>h) N.Zw (ba _) N.AB,rfl⟩
 .exact⟨N,rfl⟩
theorem ZfN(N:NR S g M i n){x:Cm}(hx:S x):NR S g M i (add n x)/\(add n x).up=n.up/\(add n x).Zp=n.Zp:=by
 unfold add;split
 .exact⟨N,rfl,rfl⟩
 .refine⟨⟨N.acc,N.m,⟨N.tape.idle,N.tape.busy,N.tape.down,N.tape.len⟩,fun p e=>?_,N.Zh,N.Zw,fun y hy=>?_,fun r e=>?_⟩,rfl,rfl⟩
  .have:=N.Zp p e
   cases p<;>exact this
  .rcases aa.1 hy with hy|hy
   .exact N.AB y hy
   .have:y=x:=by simpa using hy
    rw[this];exact hx
  .have R:=N.Zg r e;exact⟨R.ZV,R.may,R.ZF,R.pn,R.pr,R.safe,R.free,R.YZ⟩
theorem ZaD(hi:i<5)(G:GI S g M)(N:NR S g M i n)(hu:n.up=true)(hp:n.Zp=Y)(NI:Ua C i n){l:YF}(LI:Q8 C l)(L:LR S g M l):HR S g M i (Zu n l):=by
 have Hv:=NI.me;unfold Zu;split
 .exact j2 hi G N hu hp Hv
 split
 .rename_i k;exact j3 G N hp hu NI LI L k
 split
 .rename_i k;exact Zep hi G N hu hp Hv (L.ask k)
 split
 .rename_i k;obtain⟨h1,h2,_⟩:=ZfN N (L.fwd k);exact .same h1 (by rw[h2];exact hu)
 split
 .unfold Qd;obtain⟨h1,h2⟩:=nA N hp l;split
  .rename_i x hx;refine .one h1 (by rw[h2];exact hu) ⟨fun e=>(by cases e),fun e=>(by cases e),fun e=>(by cases e),fun e=>(by cases e),fun _=>?_⟩;exact N.Zh _ _ hx
  .exact .same h1 (by rw[h2];exact hu)
 split
 .rename_i k;exact nz N hp hu (L.cho k)
 .obtain⟨h1,h2⟩:=nA N hp l;exact .same h1 (by rw[h2];exact hu)
theorem NR.box(N:NR S g M i n)(k:List YF):NR S g M i { n with Zf:=k }:=
 ⟨N.acc,N.m,⟨N.tape.idle,N.tape.busy,N.tape.down,N.tape.len⟩,fun p e=>(by have:=N.Zp p e;cases p<;>exact this),N.Zh,N.Zw,N.AB,fun r e=>by
  have R:=N.Zg r e;exact⟨R.ZV,R.may,R.ZF,R.pn,R.pr,R.safe,R.free,R.YZ⟩⟩
end
theorem j4(s:Int):∀(l:List Vt) (b:Vt),(l.foldl (U0 s) b=b\/(l.foldl (U0 s) b∈l/\(l.foldl (U0 s) b).Zt=s))/\¬ZE (l.foldl (U0 s) b).b b.b/\∀v∈l,v.Zt=s->¬ZE (l.foldl (U0 s) b).b v.b:=by
 intro l
 induction l with
 | nil=>intro b;exact⟨.inl rfl,JW _,fun v hv=>by cases hv⟩
 | cons x l ih=>
  intro b;obtain⟨h1,h2,h3⟩:=ih (U0 s b x);rw[a2];have hx:¬ZE (U0 s b x).b b.b/\(x.Zt=s->¬ZE (U0 s b x).b x.b)/\(U0 s b x=b\/(U0 s b x=x/\x.Zt=s)):=by
   unfold U0;split
   .rename_i q;exact⟨L0 q.2,fun _=>JW _,.inr ⟨rfl,q.1⟩⟩
   .rename_i q;exact⟨JW _,fun e f=>q ⟨e,f⟩,.inl rfl⟩
  refine⟨?_,X2 hx.1 h2,fun v hv e=>?_⟩
  .rcases h1 with h1|⟨h1,h4⟩
   .rw[h1];rcases hx.2.2 with q|⟨q,q2⟩
    .exact .inl q
    .rw[q];exact .inr ⟨uK,q2⟩
   .exact .inr ⟨by simp[h1],h4⟩
  .rcases a7.1 hv with rfl|hv
   .exact X2 (hx.2.1 e) h2
   .exact h3 v hv e
theorem MB:∀(l:List Vt) (t:Int),t<=l.foldl (fun t v=>if t<v.Zt then v.Zt else t) t/\(∀v∈l,v.Zt<=l.foldl (fun t v=>if t<v.Zt then v.Zt else t) t)/\(l.foldl (fun t v=>if t<v.Zt then v.Zt else t) t=t\/∃v∈l,l.foldl (fun t v=>if t<v.Zt then v.Zt else t) t=v.Zt):=by
 intro l
 induction l with
 | nil=>intro t;exact⟨Int.le_refl _,fun v hv=>(by cases hv),.inl rfl⟩
 | cons x l ih=>
  intro t;obtain⟨h1,h2,h3⟩:=ih (if t<x.Zt then x.Zt else t);rw[a2];have hx:t<=(if t<x.Zt then x.Zt else t)/\x.Zt<=(if t<x.Zt then x.Zt else t)/\((if t<x.Zt then x.Zt else t)=t\/(if t<x.Zt then x.Zt else t)=x.Zt):=by
   split
   .exact⟨nT,nT,.inr rfl⟩
   .exact⟨nT,nT,.inl rfl⟩
  refine⟨nT,fun v hv=>?_,?_⟩
  .rcases a7.1 hv with rfl|hv
   .omega
   .exact h2 v hv
  .rcases h3 with h3|⟨v,hv,h3⟩
   .rcases hx.2.2 with q|q
    .exact .inl (by rw[h3,q])
    .exact .inr ⟨x,uK,by rw[h3,q]⟩
   .exact .inr ⟨v,by simp[hv],h3⟩
theorem KU{v:Vt}(h:v∈(Yq r).flatten):∃m:Nat,m<5/\∃vs,Yg r.ZF (m:Int)=U vs/\v∈vs:=by
 obtain⟨l,h1,h2⟩:=bg.1 h;unfold Yq at h1;obtain⟨m,h3,rfl⟩:=ao.1 h1;rw[bd]at h3
 cases e:Yg r.ZF (m:Int) with
 | none=>rw[e]at h2;cases h2
 | some vs=>rw[e]at h2;exact⟨m,h3,vs,e,h2⟩
theorem RE{v:Vt}{m:Nat}(hm:m<5){vs:List Vt}(h:Yg r.ZF (m:Int)=U vs)(hv:v∈vs):v∈(Yq r).flatten:=by
 refine bg.2 ⟨vs,?_,hv⟩;unfold Yq;exact ao.2 ⟨m,bd.2 hm,by rw[h];rfl⟩
theorem KV{a:UH}(h:Da a)(hb:∀v∈a.l,¬ZE a.p v.b):Jz a.p a.l=0:=by
 refine Ou ?_ (fun j hj=>?_)
 .rintro⟨h1,h2⟩;rcases h.bal with q|q
  .exact h1 q
  .exact h2 q
 .rw[Ls hj];refine⟨h.YZ.1 _ (bo hj),hb _ (bo hj),?_⟩;by_cases e:j=0
  .exact .inl e
  .rw[O9 (j:=j-1) nT];exact .inr (List.pairwise_iff_getElem.1 h.YZ.2 (j-1) j nT hj nT)
section
variable {S:Cm->Prop} {g:Gh} {M:Nat->Yn} {i:Nat} {n:Nd}
theorem Cf(RI:Mz r):∀v∈(Yq r).flatten,Yo v:=fun v hv=>by
 obtain⟨m,_,vs,h1,h2⟩:=KU hv;exact (RI.vs _ (RQ h1)).1 v h2
theorem Zeq(RI:Mz r):Pd (Yq r).flatten<=39:=by
 obtain⟨_,_,h3⟩:=MB (Yq r).flatten (-1);have e:Pd (Yq r).flatten=(Yq r).flatten.foldl (fun t v=>if t<v.Zt then v.Zt else t) (-1):=rfl;rcases h3 with h3|⟨v,hv,h3⟩
 .omega
 .have:=(Cf RI v hv).1;omega
theorem sE(G:GI S g M)(R:RR g M i n r)(RI:Mz r)(hb:r.Xg=false)(hm:5<2*r.ZF.length)(s:Nat)(hs:(s:Int)<=Pd (Yq r).flatten):
  Safe g M r.b s (OH (Yq r) s)/\(OH (Yq r) s=Nv\/S (OH (Yq r) s)):=by
 have h39:=Zeq RI;have ZaE:=Cf RI;have yn:Sr (s:Int) (Yq r).flatten=0:=by
  unfold Sr WS;rw[if_neg nT,if_pos (List.all_eq_true.2 fun v hv=>decide_eq_true (ZaE v hv))]
 have hpc:OH (Yq r) s=(WR (s:Int) (Yq r).flatten).cm:=by unfold OH;rw[if_pos yn]
 obtain⟨h1,_,h3⟩:=j4 (s:Int) (Yq r).flatten SM;obtain⟨B,hB⟩:=ZN (WR (s:Int) (Yq r).flatten);rw[hpc,<-hB];have eB:(Yq r).flatten.foldl (U0 (s:Int)) SM=B:=hB.symm;rw[eB]at h1 h3;have hQ:=RI.ZF.maj hm;have hPF:∀i:Nat,i∈r.ZF.map (fun x=>x.1.toNat)->∃vs,Yg r.ZF (i:Int)=U vs/\PF g M i r.b vs:=fun i hi=>by
  obtain⟨vs,h⟩:=RI.ZF.back hi;have:=R.ZF _ _ h;rw[aq]at this;exact⟨vs,h,this⟩
 have Lx:∀i∈r.ZF.map (fun x=>x.1.toNat),¬ZE (M i) r.b:=fun i hi=>by
  obtain⟨vs,_,h⟩:=hPF i hi;exact h.Z1
 rcases h1 with h1|⟨h1,h4⟩
 .subst h1;refine⟨⟨_,hQ,Lx,.inl fun i hi b' y J9 hv=>?_⟩,.inl rfl⟩;obtain⟨vs,FG,h⟩:=hPF i hi;obtain⟨v,v1,v2,_⟩:=h.all b' s y J9 hv;have:=h3 v (RE h.lt FG v1) v2;have:=(h.has v v1).1;have hvm:=ZaE v (RE h.lt FG v1);have:=hvm.2.1;unfold ZD at this;have h7:ZE SM.b v.b:=by unfold ZE SM;simp only;omega
  exact h3 v (RE h.lt FG v1) v2 h7
 .obtain⟨m,hm5,vs,e1,e2⟩:=KU h1;have hp:=R.ZF _ _ e1;rw[aq]at hp;obtain⟨p1,p2⟩:=hp.has B e2;rw[h4]at p1;have p3:ZE B.b r.b:=by
   refine a6 fun q=>?_;have:=Pj q p2;exact R.pn hb _ _ (by rw[<-this];exact G.vp _ _ _ _ p1)
  refine⟨⟨_,hQ,Lx,.inr ⟨B.b,m,p3,p1,fun i hi b' y J9 hv=>?_⟩⟩,G.cmd _ _ _ (G.vp _ _ _ _ p1)⟩;obtain⟨vs',FG,h⟩:=hPF i hi;obtain⟨v,v1,v2,v3⟩:=h.all b' s y J9 hv;exact X2 v3 (h3 v (RE h.lt FG v1) v2)
theorem ZaF(R:RR g M i n r)(RI:Mz r)(hm:5<2*r.ZF.length){s:Int}(hs:Pd (Yq r).flatten<s):IY g M r.b s:=by
 have hQ:=RI.ZF.maj hm;obtain⟨_,h2,_⟩:=MB (Yq r).flatten (-1);refine⟨_,hQ,fun i hi=>?_,fun i hi b' y J9 hv=>?_⟩
 .obtain⟨vs,h⟩:=RI.ZF.back hi;have:=R.ZF _ _ h;rw[aq]at this;exact this.Z1
 .obtain⟨vs,h⟩:=RI.ZF.back hi;have h:=R.ZF _ _ h;rw[aq]at h;obtain⟨vs',h'⟩:=RI.ZF.back hi;have h:=R.ZF _ _ h';rw[aq]at h;obtain⟨v,v1,v2,_⟩:=h.all b' s y J9 hv;have:=h2 v (RE h.lt h' v1);have e:Pd (Yq r).flatten=(Yq r).flatten.foldl (fun t v=>if t<v.Zt then v.Zt else t) (-1):=rfl;omega
theorem j5(n:Nd)(LL:List (List Vt)):∀(cnt L:Nat) (pr:List (Int × Cm)),
  (∀t y,Yg ((bt L cnt).foldl (J2 n LL) pr) t=U y->Yg pr t=U y\/∃s:Nat,L<=s/\s<L+cnt/\t=s/\y=OH LL s) /\
  (∀s:Nat,L<=s->s<L+cnt->Yg n.Zh (s:Int)=Y->Yg ((bt L cnt).foldl (J2 n LL) pr) (s:Int)≠Y) /\
  (∀t,Yg pr t≠Y->Yg ((bt L cnt).foldl (J2 n LL) pr) t≠Y):=by
 intro cnt
 induction cnt with
 | zero=>intro L pr;exact⟨fun t y h=>.inl h,fun s h1 h2=>nT,fun t h=>h⟩
 | succ cnt ih=>
  intro L pr;rw[List.range'_succ,a2];obtain⟨h1,h2,h3⟩:=ih (L+1) (J2 n LL pr L);have hb:∀t,Yg pr t≠Y->Yg (J2 n LL pr L) t≠Y:=fun t h=>by
   unfold J2;split
   .rw[Xb];split
    .simp
    .exact h
   .exact h
  refine⟨fun t y h=>?_,fun s hs1 hs2 hk=>?_,fun t h=>h3 t (hb t h)⟩
  .rcases h1 t y h with h|⟨s,q1,q2,q3,q4⟩
   .unfold J2 at h;split at h
    .rw[Xb]at h;split at h
     .rename_i e;cases h;exact .inr ⟨L,nT,nT,e.symm,rfl⟩
     .exact .inl h
    .exact .inl h
   .exact .inr ⟨s,nT,nT,q3,q4⟩
  .by_cases e:s=L
   .subst e;refine h3 _ ?_;unfold J2;rw[if_pos hk,Xb,if_pos rfl];simp
   .exact h2 s nT nT hk
theorem No{x:Cm}:∀(k s t:Nat),Qe n r x k s=U t->s<=t/\t<s+k/\Yg r.ZT (t:Int)=Y/\Yg n.Zh (t:Int)=Y:=by
 intro k
 induction k with
 | zero=>intro s t h;cases h
 | succ k ih=>
  intro s t h;unfold Qe at h;split at h
  .cases h
  .split at h
   .rename_i q;cases h;exact⟨ba _,nT,q.1,q.2⟩
   .have:=ih _ _ h;exact⟨nT,nT,this.2.2⟩
structure RB(S:Cm->Prop)(g:Gh)(M:Nat->Yn)(n:Nd)(r r':Xw):Prop where
 b:r'.b=r.b
 ZF:r'.ZF=r.ZF
 YZ:r'.YZ=r.YZ
 Xg:r'.Xg=true
 MH:∀t y,g.P r.b t y->Yg r'.ZT t=U y
 safe:∀t y,Yg r'.ZT t=U y->Safe g M r.b t y/\(y=Nv\/S y)
 free:∀s:Int,(n.Zw.length:Int)<=s->Yg r'.ZT s=Y->Yg n.Zh s=Y->IY g M r.b s
theorem RB.one{r':Xw}(h:RB S g M n r r'){x:Cm}(hx:S x):RB S g M n r (J4 n r' x):=by
 unfold J4;split
 .rename_i s hs;obtain⟨h1,h2,h3,h4⟩:=No _ _ _ hs;have ho:=h.free s nT h3 h4;refine⟨h.b,h.ZF,h.YZ,h.Xg,fun t y e=>?_,fun t y e=>?_,fun t q1 q2 q3=>?_⟩
  .have:=h.MH t y e;show Yg (ins r'.ZT (s:Int) x) t=U y;rw[Xb,if_neg (fun e=>by rw[<-e,h3]at this;cases this)];exact this
  .have e:Yg (ins r'.ZT (s:Int) x) t=U y:=e;rw[Xb]at e;split at e
   .rename_i q;cases e;rw[<-q];exact⟨ho.safe x,.inr hx⟩
   .exact h.safe t y e
  .have q2:Yg (ins r'.ZT (s:Int) x) t=Y:=q2;rw[Xb]at q2;split at q2
   .cases q2
   .exact h.free t q1 q2 q3
 .exact h
theorem RB.all:∀(l:List Cm) (r':Xw),RB S g M n r r'->(∀x∈l,S x)->RB S g M n r (Jb n r' l):=by
 intro l
 induction l with
 | nil=>intro r' h _;exact h
 | cons x l ih=>intro r' h hl;exact ih _ (h.one (hl x uK)) (fun y hy=>hl y (by simp[hy]))
theorem ZaG(G:GI S g M)(R:RR g M i n r)(RI:Mz r)(hb:r.Xg=false)(hm:5<2*r.ZF.length):RB S g M n r (Wq n r):=by
 obtain⟨h1,h2,_⟩:=j5 n (Yq r) ((Pd (Yq r).flatten+1).toNat-n.Zw.length) n.Zw.length r.ZT;refine⟨rfl,rfl,rfl,rfl,fun t y e=>(R.pn hb _ _ e).elim,fun t y e=>?_,fun s q1 q2 q3=>?_⟩
 .rcases h1 t y e with e|⟨s,s1,s2,rfl,rfl⟩
  .exact (R.pn hb _ _ (R.safe _ _ e)).elim
  .exact sE G R RI hb hm s nT
 .obtain⟨k,rfl⟩:∃k:Nat,s=k:=⟨s.toNat,nT⟩
  by_cases hk:(k:Int)<=Pd (Yq r).flatten
  .exact (h2 k nT nT q3 q2).elim
  .exact ZaF R RI hm nT
theorem RR.rb(G:GI S g M)(R:RR g M i n r)(hb:r.Xg=true):RB S g M n r r:=
 ⟨rfl,rfl,rfl,hb,R.pr,fun t y e=>⟨G.safe _ _ _ (R.safe _ _ e),G.cmd _ _ _ (R.safe _ _ e)⟩,R.free hb⟩
theorem ZaH(G:GI S g M)(R:RR g M i n r)(RI:Mz r)(hm:5<2*r.ZF.length)(hq:∀x∈n.Zr,S x):RB S g M n r (XJ n r):=by
 unfold XJ;refine RB.all _ _ ?_ hq;split
 .rename_i hb;exact R.rb G hb
 .rename_i hb;exact ZaG G R RI (by simpa using hb) hm
structure SR(S:Cm->Prop)(g:Gh)(M:Nat->Yn)(i:Nat)(o:Out)(g':Gh)(M':Nat->Yn):Prop where
 e:Ext i g M g' M'
 gi:GI S g' M'
 h:HR S g' M' i o
theorem SR.same(G:GI S g M){o:Out}(h:HR S g M i o):SR S g M i o g M:=⟨Ext.refl _ _ _,G,h⟩
theorem Zif(hi:i<5)(G:GI S g M)(N:NR S g M i n)(hu:n.up=true)(hp:n.Zp=Y)(NI:Ua C i n)(hr:n.Zg=U r):∃g' M',SR S g M i (Js n r) g' M':=by
 have eA:=Jn hu;have R:=N.Zg r hr;have RI:=NI.Zg r hr;have Up:=N.acc;have hM:=N.m;rw[eA]at Up hM;unfold Js;split
 .rename_i c1;split
  .exact⟨g,M,.same G (.same N hu)⟩
  .rename_i c2;have ea:Jz n.Zm.p n.Zm.l=0:=KV NI.Zm (fun v hv=>by rw[<-hM];exact G.Z1 _ _ _ _ (Up.has v hv));have e1:YG n.Zm.p n.Zm.l r.b=0:=by
    unfold YG;rw[if_neg (by rw[ea];decide),if_neg (fun h=>h R.may),if_neg (L0 c1)]
   have e3:Jj n.data n.YS r.b=0:=by simpa using c2
   rw[if_pos e1,if_pos e1];refine⟨g,M,.same G ⟨N.wait hu hp (f:=JQ r.b) (dF e1) ?_ ⟨r.b,rfl,rfl,e1,fun _=>⟨r,hr,rfl⟩⟩,hu,fun l hl=>by cases hl⟩⟩;rw[ae,Nl];exact LV e3
 .rename_i c1;split
  .refine⟨g,M,.same G ⟨N,hu,fun l hl=>?_⟩⟩;unfold SP at hl;obtain⟨m,_,hl⟩:=a3.1 hl;split at hl
   .rw[am.1 hl];exact .plain (.inl rfl)
   .cases hl
  .rename_i c2;have B:=ZaH G R RI (by simpa using c2) N.AB;have hP:=dE G (i:=i) (b:=r.b) (l:=(XJ n r).ZT) R.ZV R.may (by rw[hM];exact c1) B.MH (fun t y e=>(B.safe t y e).1) (fun t y e=>(B.safe t y e).2);obtain⟨E,G'⟩:=hP;obtain⟨g',Eu⟩:=ZN (nt g r.b (XJ n r).ZT);have hV:g'.V=g.V:=by rw[Eu];rfl
   have hPn:∀s x,Yg (XJ n r).ZT s=U x->g'.P r.b s x:=fun s x e=>by rw[Eu];exact .inr ⟨rfl,e⟩
   have hPo:∀s x,g'.P r.b s x->Yg (XJ n r).ZT s=U x:=fun s x e=>by
    rw[Eu]at e;rcases e with e|e
    .exact B.MH s x e
    .exact e.2
   rw[<-Eu]at E G';have Nn:NR S g' M i { n with Zg:=U (XJ n r) }:=by
    refine⟨⟨fun v hv=>E.v _ _ _ _ (N.acc.has v hv),fun b s x hv=>N.acc.all b s x (by rw[<-hV];exact hv)⟩,N.m,⟨N.tape.idle,N.tape.busy,N.tape.down,N.tape.len⟩,fun p e=>?_,fun s x e=>(N.Zh s x e).ext E,fun k x e=>(N.Zw k x e).ext E,N.AB,fun r' e=>?_⟩
    .rw[show ({ n with Zg:=U (XJ n r) }:Nd).Zp=n.Zp from rfl,hp]at e;cases e
    .obtain rfl:=Option.some.inj e;refine⟨by rw[B.b];exact R.ZV,by rw[B.b];exact R.may,fun j vs q=>?_,fun q=>?_,?_,?_,?_,fun s K j q1 q2=>?_⟩
     .rw[B.ZF]at q;rw[B.b];exact (R.ZF j vs q).ext E
     .rw[B.Xg]at q;cases q
     .rw[B.b];exact hPo
     .rw[B.b];exact hPn
     .rw[B.b];exact fun _ s q1 q2 q3=>(B.free s q1 q2 q3).ext E
     .rw[B.YZ]at q1;rw[B.b,hV];exact R.YZ s K j q1 q2
   refine⟨g',M,E,G',Nn,hu,fun l hl=>?_⟩;have hl:l∈Wr n (XJ n r):=hl;unfold Wr at hl;obtain⟨s,_,hl⟩:=a3.1 hl;unfold WU at hl;split at hl
   .rename_i x hx;split at hl
    .obtain⟨m,_,hl⟩:=a3.1 hl;unfold Pe at hl;split at hl
     .obtain rfl:=am.1 hl;refine⟨fun e=>(by cases e),fun _=>?_,fun e=>(by cases e),fun e=>(by cases e),fun e=>(by cases e)⟩;show g'.P (XJ n r).b _ _;rw[B.b];exact hPn _ _ hx
     .cases hl
    .cases hl
   .cases hl
theorem Zer(N:NR S g M i n)(hp:n.Zp=Y)(hu:n.up=true):NR S g M i (Zn n)/\(Zn n).Zp=Y/\(Zn n).up=true:=by
 unfold Zn;split
 .rename_i r hr;split
  .refine⟨⟨N.acc,N.m,⟨N.tape.idle,N.tape.busy,N.tape.down,N.tape.len⟩,fun p e=>?_,N.Zh,N.Zw,N.AB,fun r' e=>by cases e⟩,hp,hu⟩;have e:n.Zp=U p:=e;rw[hp]at e;cases e
  .exact⟨N,hp,hu⟩
 .exact⟨N,hp,hu⟩
theorem Zes(hi:i<5)(G:GI S g M)(N:NR S g M i n)(hu:n.up=true)(hp:n.Zp=Y)(NI:Ua C i n):∃g' M',SR S g M i (Z2 n) g' M':=by
 unfold Z2;split
 .rename_i r hr;exact Zif hi G N hu hp NI hr
 .split
  .refine⟨g,M,.same G ⟨N,hu,fun l hl=>?_⟩⟩;have hl:l∈U3 n:=hl;unfold U3 at hl;obtain⟨x,hx,rfl⟩:=ao.1 hl;exact⟨fun e=>(by cases e),fun e=>(by cases e),fun e=>(by cases e),fun _=>N.AB x hx,fun e=>(by cases e)⟩
  .exact⟨g,M,.same G (.same N hu)⟩
theorem sF(n:Nd):∀l∈QZ n,LR S g M l:=fun l hl=>by
 unfold QZ at hl;split at hl
 .rw[am.1 hl];exact .plain (.inr (.inl rfl))
 .cases hl
theorem NR.Yt(N:NR S g M i n):NR S g M i (JD n):=
 ⟨N.acc,N.m,⟨N.tape.idle,N.tape.busy,N.tape.down,N.tape.len⟩,fun p e=>(by have:=N.Zp p e;cases p<;>exact this),N.Zh,N.Zw,N.AB,fun r e=>by
  have R:=N.Zg r e;exact⟨R.ZV,R.may,R.ZF,R.pn,R.pr,R.safe,R.free,R.YZ⟩⟩
theorem Zig(hi:i<5)(G:GI S g M)(N:NR S g M i n)(hu:n.up=true)(hp:n.Zp=Y)(NI:Ua C i n):∃g' M',SR S g M i (Yi n) g' M':=by
 obtain⟨N1,p1,u1⟩:=Zer N hp hu;obtain⟨g',M',E,G',H⟩:=Zes hi G N1 u1 p1 (ng NI).1;unfold Yi;split
 .exact⟨g',M',E,G',H⟩
 .refine⟨g',M',E,G',H.n.Yt,H.up,fun l hl=>?_⟩;rcases aa.1 hl with hl|hl
  .exact H.ls l hl
  .exact sF _ l hl
theorem ZaI(G:GI S g M)(N:NR S g M i n)(hu:n.up=true){p:Kf}(hp:n.Zp=U p):∃g' M',Ext i g M g' M'/\GI S g' M'/\AR g' i (WY p)/\M' i=(WY p).p/\(∀b s x,g'.P b s x↔g.P b s x)/\(∀a to v,p=.TC a to v->g'.V i v.b v.Zt v.cm):=by
 have eA:=Jn hu;have Up:=N.acc;have hM:=N.m;rw[eA]at Up hM;have hPR:=N.Zp p hp;have same:∀b,¬ZE b (M i)->∃g' M',Ext i g M g' M'/\GI S g' M'/\AR g' i ⟨b,n.Zm.l⟩/\M' i=b/\(∀b s x,g'.P b s x↔g.P b s x):=fun b hb=>by
  obtain⟨E,G'⟩:=raised G hb;exact⟨g,Nx M i b,E,G',⟨Up.has,Up.all⟩,by unfold Nx;rw[if_pos rfl],fun _ _ _=>Iff.rfl⟩
 cases p with
 | Vy a to b vs=>
  obtain⟨rfl,rfl,h3⟩:=hPR;obtain⟨g',M',h1,h2,h4,h5,h6⟩:=same b (by rw[hM];exact L1 h3);exact⟨g',M',h1,h2,h4,h5,h6,fun _ _ _ e=>by cases e⟩
 | Zm a vs cur=>
  obtain⟨b,rfl,rfl,h3,_⟩:=hPR;obtain⟨g',M',h1,h2,h4,h5,h6⟩:=same b (by rw[hM];exact L1 h3);exact⟨g',M',h1,h2,h4,h5,h6,fun _ _ _ e=>by cases e⟩
 | TC a to v=>
  obtain⟨rfl,h3,h4⟩:=hPR;have Xv:=L4 h3;obtain⟨E,G'⟩:=Znk G h4 (by rw[hM];exact Xv);refine⟨_,_,E,G',⟨fun u hu=>?_,fun b s x hv=>?_⟩,by unfold Nx;rw[if_pos rfl];rfl,fun _ _ _=>Iff.rfl,fun _ _ _ e=>by cases e;exact .inr ⟨rfl,rfl,rfl,rfl⟩⟩
  .have hu:u∈n.Zm.l.filter (fun x=>decide (x.Zt<v.Zt))++v :: n.Zm.l.filter (fun x=>decide (v.Zt<x.Zt)):=hu;rcases aa.1 hu with hu|hu
   .exact .inl (Up.has u (a0.1 hu).1)
   .rcases a7.1 hu with rfl|hu
    .exact .inr ⟨rfl,rfl,rfl,rfl⟩
    .exact .inl (Up.has u (a0.1 hu).1)
  .have ZfP:v∈JA n.Zm.l v:=by unfold JA;simp
   rcases hv with hv|⟨_,rfl,rfl,rfl⟩
   .obtain⟨u,u1,u2,u3⟩:=Up.all b s x hv;by_cases e:u.Zt=v.Zt
    .refine⟨v,ZfP,by rw[<-e];exact u2,?_⟩;have:=G.Z1 _ _ _ _ hv;rw[hM]at this;exact X2 this Xv
    .refine⟨u,?_,u2,u3⟩;show u∈JA n.Zm.l v;unfold JA;rcases Int.lt_or_gt_of_ne e with q|q
     .exact aa.2 (.inl (a0.2 ⟨u1,by simpa using q⟩))
     .exact aa.2 (.inr (a7.2 (.inr (a0.2 ⟨u1,by simpa using q⟩))))
   .exact⟨v,ZfP,rfl,JW _⟩
theorem NR.rest(N:NR S g M i n){g':Gh}{M':Nat->Yn}(E:Ext i g M g' M')(hP:∀b s x,g'.P b s x↔g.P b s x):(∀s x,Yg n.Zh s=U x->Jf g' s x)/\(∀(k:Nat) x,n.Zw[k]? = U x->Jf g' (k:Int) x)/\∀r,n.Zg=U r->RR g' M' i n r:=by
 refine⟨fun s x e=>(N.Zh s x e).ext E,fun k x e=>(N.Zw k x e).ext E,fun r e=>?_⟩;have R:=N.Zg r e;exact⟨R.ZV,R.may,fun j vs q=>(R.ZF j vs q).ext E,fun q s x h=>R.pn q s x ((hP _ _ _).1 h),fun s x h=>R.pr s x ((hP _ _ _).1 h),fun s x h=>(hP _ _ _).2 (R.safe s x h),fun q s q1 q2 q3=>(R.free q s q1 q2 q3).ext E,fun s K j q1 q2=>by
  obtain⟨x,hx⟩:=R.YZ s K j q1 q2;exact⟨x,E.v _ _ _ _ hx⟩⟩
theorem dH(T:TR n)(hu:n.up=true){p:Kf}(hp:n.Zp=U p):(ZM n).data=n.data/\(ZM n).YS=(Q n.data)/\Whole n.data (WY p):=by
 obtain⟨d,f,h1,h2,h3,h4⟩:=T.busy hu p hp;have hl:=T.len;have ok:YX n.data n.YS:=⟨hl,nT,by rw[h2,h1,ae];omega⟩
 refine⟨by unfold ZM;simp only[if_pos ok],by unfold ZM;simp only[if_pos ok],?_⟩;rw[h1];exact h3.add h4
theorem ZaJ(hi:i<5)(G:GI S g M)(N:NR S g M i n)(hu:n.up=true)(Hv:n.me=i){p:Kf}(hp:n.Zp=U p):∃g' M',SR S g M i (YL (ZM n) p) g' M':=by
 obtain⟨g',M',E,G',A,m',hP,hvt⟩:=ZaI G N hu hp;obtain⟨r1,r2,r3⟩:=N.rest E hP;obtain⟨t1,t2,t3⟩:=dH N.tape hu hp;have hPR:=N.Zp p hp;have hl:=N.tape.len;have base:∀(m:Nd),m.up=n.up->m.data=n.data->m.YS=(Q n.data)->m.Zm=WY p->m.Zp=Y->m.Zh=n.Zh->m.Zw=n.Zw->m.Zr=n.Zr->(∀r,m.Zg=U r->RR g' M' i m r)->NR S g' M' i m:=fun m e1 e2 e3 e4 e5 e6 e7 e8 e9=>by
  have eA:Ww m=WY p:=by rw[Jn (by rw[e1];exact hu),e4]
  refine⟨by rw[eA];exact A,by rw[eA];exact m',⟨fun _ _=>⟨by rw[e2,e4];exact t3,by rw[e3,e2]⟩,fun _ q hq=>(by rw[e5]at hq;cases hq),fun h=>(by rw[e1,hu]at h;cases h),by rw[e2];exact hl⟩,fun q hq=>(by rw[e5]at hq;cases hq),by rw[e6];exact r1,by rw[e7];exact r2,by rw[e8];exact N.AB,e9⟩
 have rr:∀(m:Nd),m.Zh=n.Zh->m.Zw=n.Zw->∀r,RR g' M' i n r->RR g' M' i m r:=fun m e1 e2 r R=>⟨R.ZV,R.may,R.ZF,R.pn,R.pr,R.safe,fun q s q1 q2 q3=>R.free q s (by rw[<-e2];exact q1) q2 (by rw[<-e1];exact q3),R.YZ⟩
 have pf:=A.pf G' hi m';refine⟨g',M',E,G',?_⟩
 cases p with
 | Vy a to b vs=>
  obtain⟨rfl,rfl,h3⟩:=hPR;show HR S g' M' i ⟨{ ZM n with Zm:=⟨b,n.Zm.l⟩ },[⟨1,n.me,to,b,SM,n.Zm.l⟩],[]⟩;refine .one (base { ZM n with Zm:=⟨b,n.Zm.l⟩ } rfl t1 t2 rfl rfl rfl rfl rfl fun r e=>rr { ZM n with Zm:=⟨b,n.Zm.l⟩ } rfl rfl r (r3 r e)) hu ⟨fun _=>?_,fun e=>(by cases e),fun e=>(by cases e),fun e=>(by cases e),fun e=>(by cases e)⟩;show PF g' M' (((n.me:Nat):Int)).toNat b n.Zm.l;rw[aq,Hv];exact pf
 | TC a to v=>
  obtain⟨rfl,h3,h4⟩:=hPR;show HR S g' M' i ⟨{ ZM n with Zm:=⟨v.b,JA n.Zm.l v⟩ },[⟨3,n.me,to,Jg,v,[]⟩],[]⟩;refine .one (base { ZM n with Zm:=⟨v.b,JA n.Zm.l v⟩ } rfl t1 t2 rfl rfl rfl rfl rfl fun r e=>rr { ZM n with Zm:=⟨v.b,JA n.Zm.l v⟩ } rfl rfl r (r3 r e)) hu ⟨fun e=>(by cases e),fun e=>(by cases e),fun _=>?_,fun e=>(by cases e),fun e=>(by cases e)⟩;show g'.V (((n.me:Nat):Int)).toNat v.b v.Zt v.cm;rw[aq,Hv];exact hvt _ _ _ rfl
 | Zm a vs cur=>
  obtain⟨b,rfl,rfl,h3,h4⟩:=hPR;show HR S g' M' i ⟨{ ZM n with Zm:=⟨b,n.Zm.l⟩,Zg:=if cur=true then (ZM n).Zg.map (fun r=>{ r with ZF:=ins r.ZF (ZM n).me n.Zm.l }) else (ZM n).Zg },[],[]⟩;refine .same (base { ZM n with Zm:=⟨b,n.Zm.l⟩,Zg:=if cur=true then (ZM n).Zg.map (fun r=>{ r with ZF:=ins r.ZF (ZM n).me n.Zm.l }) else (ZM n).Zg } rfl t1 t2 rfl rfl rfl rfl rfl fun r e=>?_) hu
  cases hc:cur with
  | false=>
   have e:n.Zg=U r:=by
    have e:(if cur=true then (ZM n).Zg.map (fun r=>{ r with ZF:=ins r.ZF (ZM n).me n.Zm.l }) else (ZM n).Zg)=U r:=e;rw[hc]at e;exact e
   refine rr ?m ?a ?b r (r3 r e)
   .rfl
   .rfl
  | true=>
   obtain⟨r0,hr0,uh⟩:=h4 hc;have e:(if cur=true then (ZM n).Zg.map (fun r=>{ r with ZF:=ins r.ZF (ZM n).me n.Zm.l }) else (ZM n).Zg)=U r:=e;rw[hc,if_pos rfl,show (ZM n).Zg=n.Zg from rfl,hr0]at e;obtain rfl:=Option.some.inj e;have R:=r3 r0 hr0;have R2:RR g' M' i n { r0 with ZF:=ins r0.ZF ((n.me:Nat):Int) n.Zm.l }:=by
    refine⟨R.ZV,R.may,fun j vs q=>?_,R.pn,R.pr,R.safe,R.free,R.YZ⟩;have q:Yg (ins r0.ZF ((n.me:Nat):Int) n.Zm.l) j=U vs:=q;rw[Xb]at q;split at q
    .rename_i qq
     cases q
     rw[<-qq,aq,Hv];have:PF g' M' i b n.Zm.l:=pf;rw[<-uh]at this;exact this
    .exact R.ZF j vs q
   exact⟨R2.ZV,R2.may,R2.ZF,R2.pn,R2.pr,R2.safe,R2.free,R2.YZ⟩
theorem nC(hi:i<5)(G:GI S g M):∀(k:List YF) (n:Nd),NR S g M i n->n.up=true->n.Zp=Y->Ua C i n->(∀l∈k,Q8 C l/\LR S g M l) ->
  HR S g M i (Zy n k)/\Ua C i (Zy n k).n/\(∀l∈(Zy n k).n.Zf,LR S g M l):=by
 intro k
 induction k with
 | nil=>
  intro n N hu hp NI _;unfold Zy;exact⟨.same (N.box []) hu,{ NI with },fun l hl=>by cases hl⟩
 | cons l k ih=>
  intro n N hu hp NI hk;unfold Zy;rw[if_neg (by rw[hp];decide)];have H:=ZaD hi G (N.box k) hu hp (NI.Zf k) (hk l uK).1 (hk l uK).2;have I:=(LW hi (NI.Zf k) (hk l uK).1).nd;obtain⟨m,hm⟩:=ZN ((Zu { n with Zf:=k } l).n);have Hn:=H.n;have Hu:=H.up;rw[<-hm]at Hn Hu I;rw[<-hm];by_cases hpm:m.Zp=Y
  .obtain⟨h1,h2,h3⟩:=ih m Hn Hu hpm I (fun x hx=>hk x (by simp[hx]));refine⟨⟨h1.n,h1.up,fun x hx=>?_⟩,h2,h3⟩;rcases aa.1 hx with hx|hx
   .exact H.ls x hx
   .exact h1.ls x hx
  .have hs:m.Zp.isSome=true:=by
    cases q:m.Zp with
    | none=>exact (hpm q).elim
    | some _=>rfl
   have key:(Zy m k).n = { m with Zf:=k }/\(Zy m k).ls=[]:=by
    cases k with
    | nil=>unfold Zy;exact⟨rfl,rfl⟩
    | cons a k=>unfold Zy;rw[if_pos hs];exact⟨rfl,rfl⟩
   rw[key.1,key.2];refine⟨⟨Hn.box k,Hu,fun x hx=>?_⟩,I.Zf k,fun x hx=>(hk x (by
    have hx:x∈k:=hx;simp[hx])).2⟩
   rcases aa.1 hx with hx|hx
   .exact H.ls x hx
   .cases hx
end
structure TS(S:Cm->Prop)(g:Gh)(M:Nat->Yn)(i:Nat)(o:Out)(g':Gh)(M':Nat->Yn):Prop where
 e:Ext i g M g' M'
 gi:GI S g' M'
 n:NR S g' M' i o.n
 ls:∀l∈o.ls,LR S g' M' l
 Ub:∀l∈o.n.Zf,LR S g' M' l
section
variable {S:Cm->Prop} {g:Gh} {M:Nat->Yn} {i:Nat} {n:Nd}
theorem TS.Zn(G:GI S g M)(N:NR S g M i n)(hb:∀l∈n.Zf,LR S g M l):TS S g M i ⟨n,[],[]⟩ g M:=⟨Ext.refl _ _ _,G,N,(fun l hl=>by cases hl),hb⟩
theorem Zii(hi:i<5)(G:GI S g M)(N:NR S g M i n)(hC:(Q C)<=100000)(NI:Ua C i n)(hk:∀l∈n.Zf,Q8 C l/\LR S g M l):∃g' M',TS S g M i (step n) g' M':=by
 unfold step;split
 .rename_i hu;split
  .rename_i p hp;obtain⟨g',M',E,G',H⟩:=ZaJ hi G N hu NI.me hp;have H5:=(FO hi (FN NI) (NI.Zp p hp)).2.2.1;refine⟨g',M',E,G',H.n,H.ls,fun l hl=>?_⟩;rw[H5]at hl;exact (hk l hl).2.ext E
  .rename_i hp;obtain⟨H,I,B⟩:=nC hi G n.Zf n N hu hp NI hk;split
   .exact⟨g,M,Ext.refl _ _ _,G,H.n,H.ls,B⟩
   .rename_i PZ;have Zwr:(Zy n n.Zf).n.Zp=Y:=by
     cases q:(Zy n n.Zf).n.Zp with
     | none=>rfl
     | some _=>rw[q]at PZ;exact (PZ rfl).elim
    obtain⟨g',M',E,G',D⟩:=Zig hi G H.n H.up Zwr I;have H5:=(jP hi hC I).2.2.1;refine⟨g',M',E,G',D.n,fun l hl=>?_,fun l hl=>?_⟩
    .rcases aa.1 hl with hl|hl
     .exact (H.ls l hl).ext E
     .exact D.ls l hl
    .have hl:l∈(Yi (Zy n n.Zf).n).n.Zf:=hl;rw[H5]at hl;exact (B l hl).ext E
 .exact⟨g,M,.Zn G N fun l hl=>(hk l hl).2⟩
theorem Zij(hi:i<5)(G:GI S g M)(N:NR S g M i n)(NI:Ua C i n):NR S g M i (lead n):=by
 unfold lead;split
 .exact N
 .rename_i q;have hu:n.up=true:=by
   cases e:n.up with
   | true=>rfl
   | false=>exact (q (.inl e)).elim
  have eA:=Jn hu;have hM:=N.m;rw[eA]at hM;have hr:¬65536<(Je n).r:=fun e=>q (.inr e);have ZI6:=NI.Zm.sc.1;have hrr:n.Zm.p.r<(Je n).r/\1<=(Je n).r:=by
   unfold Je;simp only;split<;>omega
  have AG:∀s x,¬g.P (Je n) s x:=fun s x h=>by
   have:=G.Zm _ _ _ h;rw[show (Je n).n=((n.me:Nat):Int) from rfl,aq,NI.me,hM]at this;exact this (.inl hrr.1)
  have TU:(Je n).n=i:=by rw[show (Je n).n=((n.me:Nat):Int) from rfl,NI.me]
  refine⟨N.acc,N.m,⟨fun h1 h2=>N.tape.idle h1 ?_,fun h1 p hp=>?_,fun h=>?_,N.tape.len⟩,fun p hp=>?_,N.Zh,N.Zw,N.AB,fun r e=>?_⟩
  .have h2:XV n.Zp=Y:=h2
   cases e:n.Zp with
   | none=>rfl
   | some p=>rw[e]at h2;cases p<;>cases h2
  .have hp:XV n.Zp=U p:=hp
   cases e:n.Zp with
   | none=>rw[e]at hp;cases hp
   | some p0=>
    obtain⟨d,f,t1,t2,t3,t4⟩:=N.tape.busy hu p0 e;refine⟨d,f,t1,t2,t3,?_⟩;have:WY p=WY p0:=by
     rw[e]at hp
     cases p0<;>cases hp<;>rfl
    rw[this];exact t4
  .have h:n.up=false:=h;rw[hu]at h;cases h
  .have hp:XV n.Zp=U p:=hp
   cases e:n.Zp with
   | none=>rw[e]at hp;cases hp
   | some p0=>
    have P:=N.Zp p0 e;rw[e]at hp
    cases p0 with
    | Vy a to b vs=>cases hp;exact P
    | TC a to v=>cases hp;exact P
    | Zm a vs cur=>
     cases hp
     obtain⟨b,h1,h2,h3,_⟩:=P;exact⟨b,h1,h2,h3,fun h=>by cases h⟩
  .obtain rfl:=Option.some.inj e;exact⟨TU,⟨⟨hrr.2,by show (Je n).r<=65536;omega⟩,by show 0<=(Je n).n/\(Je n).n<=4;rw[TU];omega⟩,fun j vs h=>(by cases h),fun _ s x=>AG s x,fun s x h=>(AG s x h).elim,fun s x h=>(by cases h),fun h=>(by cases h),fun s K j h=>by cases h⟩
theorem H9{A:UH}{up:Bool}{d:List Nat}{z:Int}(Up:AR g i (Ww (Yl i up d z A)))(hm:M i=(Ww (Yl i up d z A)).p)(ht:TR (Yl i up d z A)):NR S g M i (Yl i up d z A):=
 ⟨Up,hm,ht,fun p e=>(by cases e),fun s x e=>(by cases e),fun k x e=>(by simp[Yl]at e),fun x e=>(by cases e),fun r e=>by cases e⟩
theorem Db(i:Nat)(n:Nd)(Ze:Int)(hu:n.up=true):∃d z,XF i n Ze=Yl i false d z JJ:=by
 unfold XF;rw[if_pos hu];split
 .exact⟨_,_,rfl⟩
 .exact⟨_,_,rfl⟩
theorem sH(G:GI S g M)(N:NR S g M i n)(hb:∀l∈n.Zf,LR S g M l){Ze:Int}(hk:0<=Ze):∃g' M',TS S g M i ⟨XF i n Ze,[],[]⟩ g' M':=by
 cases hu:n.up with
 | false=>
  have:XF i n Ze=n:=by unfold XF;rw[if_neg (by rw[hu];decide)]
  rw[this];exact⟨g,M,.Zn G N hb⟩
 | true=>
  obtain⟨t1,t2,t3⟩:=jZ N.tape hu hk (i:=i);obtain⟨d,z,e⟩:=Db i n Ze hu;rw[e]at t1 t2 t3 ⊢;have eA:=Jn hu;rcases t3 with t3|⟨p,hp,t3⟩
  .have Up:=N.acc;have hm:=N.m;rw[eA,<-t3]at Up hm;exact⟨g,M,.Zn G (H9 Up hm t1) (fun l hl=>by cases hl)⟩
  .obtain⟨g',M',E,G',A,m',_,_⟩:=ZaI G N hu hp;rw[<-t3]at A m';exact⟨g',M',E,G',H9 A m' t1,(fun l hl=>by cases hl),fun l hl=>by cases hl⟩
theorem sI(N:NR S g M i n):NR S g M i (started i n):=by
 cases hu:n.up with
 | true=>
  have:started i n=n:=by unfold started;rw[if_pos hu]
  rw[this];exact N
 | false=>
  obtain⟨t1,t2,t3⟩:=j1 N.tape hu (i:=i);have Up:=N.acc;have hm:=N.m;have e2:=Jn t2;rw[t3]at e2;rw[<-e2]at Up hm;have e:∃d z A,started i n=Yl i true d z A:=by
   unfold started;rw[if_neg (by rw[hu];decide)];exact⟨_,_,_,rfl⟩
  obtain⟨d,z,A,e⟩:=e;rw[e]at t1 Up hm ⊢;exact H9 Up hm t1
end
structure TI(S:Cm->Prop)(g:Gh)(M:Nat->Yn)(w:Wd):Prop where
 gi:GI S g M
 nd:∀i,i<5->NR S g M i (w.Zb i)
 PI:∀l∈w.Zo,LR S g M l
 Ub:∀i,i<5->∀l∈(w.Zb i).Zf,LR S g M l
section
variable {S:Cm->Prop} {g:Gh} {M:Nat->Yn} {w:Wd}
theorem TI.out(T:TI S g M w){i:Nat}{o:Out}{g':Gh}{M':Nat->Yn}(h:TS S g M i o g' M'):TI S g' M' (w.out i o):=by
 unfold Wd.out;refine⟨h.gi,fun j hj=>?_,fun l hl=>?_,fun j hj l hl=>?_⟩
 .by_cases e:j=i
  .subst e;simpa using h.n
  .simp only[if_neg e];exact (T.nd j hj).ext h.e e
 .rcases aa.1 hl with hl|hl
  .exact (T.PI l hl).ext h.e
  .exact h.ls l hl
 .by_cases e:j=i
  .subst e;simp only[if_true]at hl;exact h.Ub l hl
  .simp only[if_neg e]at hl;exact (T.Ub j hj l hl).ext h.e
theorem j6(T:TI S g M w){l:YF}(hl:LR S g M l)(ht:0<=l.to/\l.to<5):TI S g M (Q0 w l):=by
 unfold Q0;split
 .refine⟨T.gi,fun i hi=>?_,T.PI,fun i hi x hx=>?_⟩
  .unfold Wd.set;by_cases e:i=l.to.toNat
   .simp only[if_pos e];rw[e];exact (T.nd _ nT).box _
   .simp only[if_neg e];exact T.nd i hi
  .unfold Wd.set at hx;by_cases e:i=l.to.toNat
   .simp only[if_pos e]at hx;rcases aa.1 hx with hx|hx
    .exact T.Ub _ nT x hx
    .rw[am.1 hx];exact hl
   .simp only[if_neg e]at hx;exact T.Ub i hi x hx
 .exact T
theorem Zet:∀(ls:List YF) (w:Wd),TI S g M w->(∀l∈ls,LR S g M l/\0<=l.to/\l.to<5)->TI S g M (ls.foldl Q0 w):=by
 intro ls
 induction ls with
 | nil=>intro w T _;exact T
 | cons l ls ih=>intro w T h;exact ih _ (j6 T (h l uK).1 (h l uK).2) (fun x hx=>h x (by simp[hx]))
theorem TI.ZfQ(T:TI S g M w){fl:List YF}(h:∀l∈fl,l∈w.Zo):TI S g M { w with Zo:=fl }:=⟨T.gi,T.nd,fun l hl=>T.PI l (h l hl),T.Ub⟩
theorem Znm(hC:(Q C)<=100000){k:Nat}(W:WI C k w)(T:TI S g M w)(a:Ac)(hi:a.ZV<5)(hk:0<=a.Ze)(hS:∀now:Nat,a.ZR=1->YK a.data now=0->S (Xl a.data now)):
  ∃g' M',(∀j b s x,g.V j b s x->g'.V j b s x)/\TI S g' M' (act w a):=by
 have same:∀{v:Wd},TI S g M v->∃g' M',(∀j b s x,g.V j b s x->g'.V j b s x)/\TI S g' M' v:=fun h=>⟨g,M,fun _ _ _ _ h=>h,h⟩
 have N:=T.nd a.ZV hi;have NI:=W.nd a.ZV hi;unfold act;split
 .rename_i hk1;refine same ?_;unfold Jk;split
  .split
   .exact⟨T.gi,T.nd,T.PI,T.Ub⟩
   .rename_i q;split
    .exact⟨T.gi,T.nd,T.PI,T.Ub⟩
    .rw[Sw];have hx:=hS _ hk1 (by simpa using q);obtain⟨A,_,_⟩:=ZfN N hx;have s1:(add (w.Zb a.ZV) (Xl a.data (w.Zb a.ZV).Zw.length)).Zf=(w.Zb a.ZV).Zf:=by unfold add;split<;>rfl
     refine T.out ⟨Ext.refl _ _ _,T.gi,?_,(fun l hl=>by cases hl),fun l hl=>?_⟩
     .unfold TF;simp only;split
      .exact A
      .exact⟨A.acc,A.m,⟨A.tape.idle,A.tape.busy,A.tape.down,A.tape.len⟩,fun p e=>(by have:=A.Zp p e;cases p<;>exact this),A.Zh,A.Zw,A.AB,fun r e=>by
        have R:=A.Zg r e;exact⟨R.ZV,R.may,R.ZF,R.pn,R.pr,R.safe,R.free,R.YZ⟩⟩
     .have s2:(TF (add (w.Zb a.ZV) (Xl a.data (w.Zb a.ZV).Zw.length)) (Xl a.data (w.Zb a.ZV).Zw.length)).Zf=(w.Zb a.ZV).Zf:=by
       unfold TF;split<;>exact s1
      exact T.Ub _ hi l (by rw[<-s2];exact hl)
  .exact T
 split
 .refine same ?_;rw[Sw];refine T.out ⟨Ext.refl _ _ _,T.gi,Zij hi T.gi N NI,(fun l hl=>by cases hl),fun l hl=>?_⟩;have hl:l∈(lead (w.Zb a.ZV)).Zf:=hl;rw[(Zao NI).2.1]at hl;exact T.Ub _ hi l hl
 split
 .obtain⟨g',M',h⟩:=Zii hi T.gi N hC NI (fun l hl=>⟨W.Ub _ hi l hl,T.Ub _ hi l hl⟩);exact⟨g',M',h.e.v,T.out h⟩
 split
 .refine same ?_;unfold pick;split
  .exact T
  .rename_i l hl;have mG:l∈w.Zo:=List.mem_of_getElem? hl;have T2:=T.ZfQ (fl:=w.Zo.eraseIdx (a.at'%w.Zo.length)) (fun x hx=>List.mem_of_mem_eraseIdx hx);have ht:=(W.PI l mG).to;split
   .split
    .exact j6 T (T.PI l mG) ht
    .exact j6 T2 (T.PI l mG) ht
   .split
    .exact T
    .exact T2
 split
 .exact same (Zet _ _ (T.ZfQ (fl:=[]) (fun l hl=>by cases hl)) (fun l hl=>⟨T.PI l hl,(W.PI l hl).to⟩))
 split
 .obtain⟨g',M',h⟩:=sH T.gi N (T.Ub _ hi) hk;rw[Sw];exact⟨g',M',h.e.v,T.out h⟩
 .refine same ?_;rw[Sw];refine T.out ⟨Ext.refl _ _ _,T.gi,sI N,(fun l hl=>by cases hl),fun l hl=>?_⟩;rcases (Ca NI (i:=a.ZV)).2 with⟨q,_⟩|q
  .have hl:l∈(started a.ZV (w.Zb a.ZV)).Zf:=hl;rw[q]at hl;cases hl
  .have hl:l∈(started a.ZV (w.Zb a.ZV)).Zf:=hl;rw[q]at hl;exact T.Ub _ hi l hl
def gh0:Gh:=⟨fun _ _ _ _=>False,fun _ _ _=>False⟩
theorem dI:TI S gh0 (fun _=>Jg) Ur:=by
 refine⟨⟨fun _ _ _ _ h=>h.elim,fun _ _ _ _ h=>h.elim,fun _ _ _ _ h=>h.elim,fun _ _ _ h=>h.elim,fun _ _ _ h=>h.elim,fun _ _ _ h=>h.elim,fun _ _ _ h=>h.elim⟩,fun i hi=>?_,(fun l hl=>by cases hl),fun i hi l hl=>by cases hl⟩;exact H9 ⟨fun v hv=>(by cases hv),fun _ _ _ h=>h.elim⟩ rfl (ZaB i)
def sJ(S:Cm->Prop)(C:List Cm)(a:Ac):Prop:=(a.ZV<5/\UE a.data∈C)/\0<=a.Ze/\∀now:Nat,a.ZR=1->YK a.data now=0->S (Xl a.data now)
theorem ZaK(hC:(Q C)<=100000):∀(l:List Ac) (k:Nat) (w:Wd) (g:Gh) (M:Nat->Yn),WI C k w->TI S g M w->(∀a∈l,sJ S C a) ->
  ∃g' M',(∀j b s x,g.V j b s x->g'.V j b s x)/\TI S g' M' (l.foldl act w)/\WI C (k+(Q l)) (l.foldl act w):=by
 intro l
 induction l with
 | nil=>intro k w g M W T _;exact⟨g,M,fun _ _ _ _ h=>h,T,W⟩
 | cons a l ih=>
  intro k w g M W T hl;obtain⟨h1,h2,h3⟩:=hl a uK;obtain⟨g1,M1,v1,T1⟩:=Znm hC W T a h1.1 h2 h3;obtain⟨g2,M2,v2,T2,W2⟩:=ih (k+1) (act w a) g1 M1 (ZfK hC W a h1.1 h1.2) T1 (fun x hx=>hl x (by simp[hx]));refine⟨g2,M2,fun _ _ _ _ h=>v2 _ _ _ _ (v1 _ _ _ _ h),T2,?_⟩;rw[List.length_cons,show k+((Q l)+1)=k+1+(Q l) by omega];exact W2
theorem ZaL(hC:(Q C)<=100000)(l:List Ac)(hl:∀a∈l,sJ S C a)(i:Nat)(hi:i<5)(x:Cm)(hx:x∈((Mt l).Zb i).Zw):x=Nv\/S x:=by
 obtain⟨g1,M1,_,T1,W1⟩:=ZaK hC l 0 Ur gh0 (fun _=>Jg) (LZ C) dI hl;obtain⟨s,hs,rfl⟩:=List.mem_iff_getElem.1 hx;have c1:=(T1.nd i hi).Zw s _ (a1 hs);obtain⟨b,hb⟩:=c1.ZT T1.gi;exact T1.gi.cmd _ _ _ hb
end
set_option maxRecDepth 100000
theorem dJ(h:∀x∈l,x.err=0)(hl:(Q l)<=100000):SY l=0:=by
 unfold SY;rw[if_neg nT];exact OL h
theorem nE{A:List Raw}(hA:∀x∈A,x.err=0)(hl:(Q A)<=100000)(i:Nat)(hi:i<5):((Xc A).Zb i).Zw.length<=40:=by
 obtain⟨C,hC⟩:∃C,C=A.map fun x=>UE x.data:=⟨_,rfl⟩
 have hCl:(Q C)<=100000:=by rw[hC,a4];exact hl
 have:=Zav hCl (A.map Raw.ac) 0 Ur (LZ C) (fun a ha=>by
  obtain⟨z,hz,rfl⟩:=ao.1 ha;obtain⟨_,q2,_,_,_⟩:=BZ (hA z hz);refine⟨by unfold Raw.ac;simp only;omega,?_⟩;rw[hC];exact ao.2 ⟨z,hz,rfl⟩)
 exact (this.nd i hi).KQ
def JE(h0:Hp)(o:Ow)(g:Hp)(v:aw)(l:List Raw):Prop:=
 Kp (fun t=>t=.Zw 100) LX h0 o g/\∃ys,Xe ys=l/\XC o (.Zw 100) 36 5 g v (Q ys) (ZU WD ys)/\∀y∈ys,PT o g y.2 y.1.data
theorem JE.nil(h0:Hp):JE h0 LX h0 (al Y 0 0) []:=⟨Kp.refl (FT h0) _,[],rfl,XC.nil _ _ _ _ _,fun y hy=>by cases hy⟩
theorem JE.ZO{h0:Hp}{o:Ow}{g:Hp}{v:aw}(A:JE h0 o g v l):∃p c,v=al p (Q l) c/\(Q l)<=c:=by
 obtain⟨_,ys,hr,O,_⟩:=A;obtain⟨p,c,h,hc⟩:=O.ZO;have:(Q ys)=(Q l):=by rw[<-hr];unfold Xe;simp
 rw[this]at h hc;exact⟨p,c,h,hc⟩
theorem JE.done{h0:Hp}{o:Ow}{g:Hp}{v:aw}(A:JE h0 o g v l):Zj h0.size h0 g/\PM v/\∃ys,Xe ys=l/\Ts WD 5 g v ys/\∀y∈ys,PT LX g y.2 y.1.data:=by
 obtain⟨p,c,hv,hc⟩:=A.ZO;obtain⟨K,ys,hr,O,I⟩:=A;exact⟨jT K,by rw[hv];exact hc,ys,hr,⟨O.sl⟩,fun y hy=>⟨⟨(I y hy).1.sl,(I y hy).1.fits,fun b hb=>⟨((I y hy).1.free b hb).1,rfl⟩⟩,(I y hy).2⟩⟩
theorem ZaM:∀(xs:List (Raw × aw)),(∀x∈xs,∃p n c,x.2=al p n c)->(ZU WD xs).all YD=true:=by
 intro xs
 induction xs with
 | nil=>intro _;rfl
 | cons x xs ih=>
  intro h;obtain⟨p,n,c,e⟩:=h x uK;have h2:=ih (fun y hy=>h y (by simp[hy]));rw[show ZU WD (x :: xs)=WD x++ZU WD xs from rfl,List.all_append,h2];unfold WD;rw[e];rfl
section
variable {T:World} {K:aw->Hp->Prop} {ty:TypeId} {cb:Array Bool}
theorem JE.PQ{h0:Hp}{o:Ow}{g:Hp}{v:aw}(A:JE h0 o g v l)(hl:(Q l)<=1000000000)(X:Raw)(q:Option Addr)(cq:Nat)(im:PT o g (al q (Q X.data) cq) X.data)(H:∀v' o' g',JE h0 o' g' v' (l++[X])->Kp SW o g o' g'->K v' g'):PY a9 T .append #[33,33] ty cb [v,al (U ⟨g.size,0,Y⟩) 1 1] K (g.push (a5 #[ab Z X.k,ab Z X.n,ab Z X.a,ab Z X.b,al q (Q X.data) cq] 36)):=by
 obtain⟨K1,ys,hr,O,I⟩:=A;have yl:(Q ys)=(Q l):=by rw[<-hr];unfold Xe;simp
 obtain⟨g6,LS⟩:=ZN (g.push (a5 (FK X.k X.n X.a X.b (al q (Q X.data) cq)).toArray 36):Hp);have k6:Kp WL o g o g6:=by rw[LS];exact Yu K1.Yp _
 have x6:g6[g.size]? = U (a5 (FK X.k X.n X.a X.b (al q (Q X.data) cq)).toArray 36):=by rw[LS];exact Zc
 have src:Sl 5 g6 (al (U ⟨g.size,0,Y⟩) 1 1) 1 (FK X.k X.n X.a X.b (al q (Q X.data) cq)):=⟨_,1,rfl,rfl,fun _=>⟨g.size,0,rfl,fun i hi=>by
  rw[Zl x6,YW,Nat.zero_add];exact a1 hi⟩⟩
 have O6:=O.Ze k6 (fun q=>q);show PY a9 T .append #[33,33] ty cb [v,al (U ⟨g.size,0,Y⟩) 1 1] K (g.push (a5 (FK X.k X.n X.a X.b (al q (Q X.data) cq)).toArray 36));rw[<-LS];refine QT (E:=36) (n:=5) (bytes:=56) (k:=1) Ze7 bn ZkP ZkR rfl ZkQ O6 k6.Yp src rfl nT nT ?_;intro v7 o7 g7 O7 k7 _;have k7:Kp (fun u=>u=.Zw 100) o g6 o7 g7:=k7;refine H v7 o7 g7 ⟨(K1.trans (Z0 k6)).trans k7,ys++[(X,al q (Q X.data) cq)],?_,?_,fun y hy=>?_⟩ (YQ ((Z0 k6).trans k7))
 .rw[<-hr];unfold Xe;simp only[a8,List.map_cons,List.map_nil]
 .have e:ZU WD (ys++[(X,Value.slice q (Q X.data) cq)])=ZU WD ys++FK X.k X.n X.a X.b (al q (Q X.data) cq):=by rw[Y6,Tq];rfl
  rw[e,ae];exact O7
 .rcases aa.1 hy with hy|hy
  .exact ((I y hy).Ze k6).Ze k7
  .rw[am.1 hy];exact (im.Ze k6).Ze k7
theorem JE.add{h0:Hp}{o:Ow}{g:Hp}{v:aw}(A:JE h0 o g v l)(hl:(Q l)<=1000000000)(k n a b:Int)(H:∀v' o' g',JE h0 o' g' v' (l++[⟨k,n,a,b,[]⟩])->K v' g'):PY a9 T .append #[33,33] ty cb [v,al (U ⟨g.size,0,Y⟩) 1 1] K (g.push (a5 #[ab Z k,ab Z n,ab Z a,ab Z b,al Y 0 0] 36)):=
 A.PQ hl ⟨k,n,a,b,[]⟩ Y 0 ⟨Im.nil _ 1 _ Y,fun x hx=>by cases hx⟩ (fun v' o' g' A' _=>H v' o' g' A')
theorem JE.ZaN{h0:Hp}{o:Ow}{g:Hp}{v:aw}(A:JE h0 o g v l)(hl:(Q l)<=1000000000){u:aw}{xs:List (Raw × aw)}(hu:Ts WD 5 g u xs)(hx:∀x∈xs,PT LX h0 x.2 x.1.data)(BD:(Q xs)<=1000000000)(H:∀v' o' g',JE h0 o' g' v' (l++Xe xs)->K v' g'):PY a9 T .append #[33,33] ty cb [v,u] K g:=by
 obtain⟨K1,ys,hr,O,I⟩:=A;have yl:(Q ys)=(Q l):=by rw[<-hr];unfold Xe;simp
 refine QT (E:=36) (n:=5) (bytes:=56) (k:=(Q xs)) Ze7 bn ZkP ZkR rfl ZkQ O K1.Yp hu.sl ?_ nT nT ?_
 .exact ZaM xs (fun x hxm=>by
   obtain⟨p,c,e⟩:=(hx x hxm).1.ZO;exact⟨p,_,c,e⟩)
 intro v7 o7 g7 O7 k7 _;have k7:Kp (fun u=>u=.Zw 100) o g o7 g7:=k7;refine H v7 o7 g7 ⟨K1.trans k7,ys++xs,?_,?_,fun y hy=>?_⟩
 .rw[<-hr];unfold Xe;rw[a8]
 .rw[Y6,ae];exact O7
 .rcases aa.1 hy with hy|hy
  .exact (I y hy).Ze k7
  .exact (hx y hy).Ze (K1.trans k7)
end
def Vv(n m:Nd):Prop:=m.up=n.up/\m.me=n.me/\∃e,m.Zw=n.Zw++e
theorem Vv.refl(n:Nd):Vv n n:=⟨rfl,rfl,[],uK⟩
theorem Vv.trans{a b c:Nd}(h1:Vv a b)(h2:Vv b c):Vv a c:=by
 obtain⟨u1,m1,e1,l1⟩:=h1;obtain⟨u2,m2,e2,l2⟩:=h2;exact⟨by rw[u2,u1],by rw[m2,m1],e1++e2,by rw[l2,l1,aU]⟩
theorem Vv.same{m:Nd}(h1:m.up=n.up)(h2:m.me=n.me)(h3:m.Zw=n.Zw):Vv n m:=⟨h1,h2,[],by rw[h3];simp⟩
theorem Ad:∀(k:Nat) (n:Nd),Vv n (Ye k n).1:=by
 intro k
 induction k with
 | zero=>intro n;exact .refl n
 | succ k ih=>
  intro n;unfold Ye;split
  .exact .refl n
  .rename_i x _;exact Vv.trans (b:=JZ n x) ⟨rfl,rfl,[x],rfl⟩ (ih _)
theorem FV(n:Nd)(s:Int)(x:Cm):Vv n (X8 n s x).n:=by
 unfold X8;exact Vv.trans (b:=Jd n s x) (.same rfl rfl rfl) (Ad _ _)
theorem MC(n:Nd)(l:YF):Vv n (Xk n l):=by
 unfold Xk;split
 .exact .same rfl rfl rfl
 .exact .refl n
theorem ZaO(n:Nd)(x:Cm):Vv n (add n x):=by
 unfold add;split
 .exact .refl n
 .exact .same rfl rfl rfl
theorem dK(n:Nd)(l:YF):Vv n (Zu n l).n:=by
 unfold Zu;split
 .unfold YA
  repeat' split
  all_goals exact .same rfl rfl rfl
 split
 .unfold Ym;split
  .exact .refl n
  .rename_i r _;split
   .split
    .exact .same rfl rfl rfl
    .exact .refl n
   .split
    .exact .refl n
    .split
     .exact Vv.trans (b:=TD n r l) (.same rfl rfl rfl) (FV _ _ _)
     .exact .same rfl rfl rfl
 split
 .unfold asked
  repeat' split
  all_goals exact .same rfl rfl rfl
 split
 .exact ZaO n _
 split
 .unfold Qd;split
  .exact MC n l
  .exact MC n l
 split
 .exact FV n _ _
 .exact MC n l
theorem FW:∀(k:List YF) (n:Nd),Vv n (Zy n k).n:=by
 intro k
 induction k with
 | nil=>intro n;unfold Zy;exact .same rfl rfl rfl
 | cons l k ih=>
  intro n;unfold Zy;split
  .exact .same rfl rfl rfl
  .exact Vv.trans (b:={ n with Zf:=k }) (.same rfl rfl rfl) (Vv.trans (dK _ l) (ih _))
theorem sK(n:Nd)(r:Xw):Vv n (Js n r).n:=by
 unfold Js;split
 .split
  .exact .refl n
  .exact .same rfl rfl rfl
 .split
  .exact .refl n
  .exact .same rfl rfl rfl
theorem j7(n:Nd):Vv n (Zn n):=by
 unfold Zn;split
 .split
  .exact .same rfl rfl rfl
  .exact .refl n
 .exact .refl n
theorem j8(n:Nd):Vv n (Z2 n).n:=by
 unfold Z2;split
 .exact sK _ _
 .split
  .exact .refl n
  .exact .refl n
theorem sL(n:Nd):Vv n (Yi n).n:=by
 have h:=Vv.trans (j7 n) (j8 (Zn n));unfold Yi;split
 .exact h
 .exact h.trans (.same rfl rfl rfl)
theorem dL(n:Nd)(p:Kf):Vv n (YL (ZM n) p).n:=by
 cases p<;>exact .same rfl rfl rfl
theorem KW(n:Nd):Vv n (step n).n:=by
 unfold step;split
 .split
  .exact dL n _
  .split
   .exact FW _ n
   .exact (FW _ n).trans (sL _)
 .exact .refl n
def Still(n m:Nd):Prop:=m.up=n.up/\m.me=n.me/\m.Zw=n.Zw
theorem sO(w:Wd)(l:YF):(Q0 w l).ZA=w.ZA/\(Q0 w l).Yw=w.Yw/\(Q0 w l).Zo=w.Zo:=by
 unfold Q0;split
 .exact⟨rfl,rfl,rfl⟩
 .exact⟨rfl,rfl,rfl⟩
theorem j9:∀(ls:List YF) (w:Wd),(ls.foldl Q0 w).ZA=w.ZA/\(ls.foldl Q0 w).Yw=w.Yw/\(ls.foldl Q0 w).Zo=w.Zo:=by
 intro ls
 induction ls with
 | nil=>intro w;exact⟨rfl,rfl,rfl⟩
 | cons l ls ih=>
  intro w;obtain⟨h1,h2,h3⟩:=ih (Q0 w l);obtain⟨k1,k2,k3⟩:=sO w l;exact⟨by rw[a2,h1,k1],by rw[a2,h2,k2],by rw[a2,h3,k3]⟩
theorem JX(w:Wd)(k:Nat)(n:Nd)(i:Nat):((w.set k n).Zb i)=if i=k then n else w.Zb i:=rfl
theorem FX(w:Wd)(k:Nat)(o:Out)(i:Nat):((w.out k o).Zb i)=if i=k then o.n else w.Zb i:=rfl
def Two(x y:Nat)(k:Int):Prop:=k=x\/k=y
section
variable {x y:Nat} {n:Nd}
theorem FY(n:Nd):(Yi n).n.Zf=n.Zf:=by
 have h1:(Zn n).Zf=n.Zf:=by
  unfold Zn
  repeat' split
  all_goals rfl
 have h2:∀m:Nd,(Z2 m).n.Zf=m.Zf:=fun m=>by
  unfold Z2 Js
  repeat' split
  all_goals rfl
 unfold Yi;split
 .rw[h2,h1]
 .show (Z2 (Zn n)).n.Zf=n.Zf;rw[h2,h1]
theorem L6(n:Nd)(p:Kf):(YL (ZM n) p).n.Zf=n.Zf:=by cases p<;>rfl
end
section
variable {x y:Nat} {w:Wd}
end
theorem kf{tc tr tu k c s n v now Ae:Int}(h:Rq tc tr tu k c s n v Ae=0)(h0:0<=now)(hn:now<=Ae):Rq tc tr tu k c s n v now=0:=by
 unfold Rq at *;by_cases c1:JM tc tr tu≠0
 .rw[if_pos c1]at h;exact (c1 h).elim
 rw[if_neg c1]at h ⊢;by_cases c2:Y0 k c s n v≠0
 .rw[if_pos c2]at h;exact (c2 h).elim
 rw[if_neg c2]at h ⊢;by_cases c3:¬KA k.toNat tr.toNat\/tc≠c
 .rw[if_pos c3]at h;cases h
 rw[if_neg c3]at h ⊢;by_cases c4:Ae<0\/tu<Ae
 .rw[if_pos c4]at h;cases h
 rw[if_neg nT]
structure Znn(rc:List Nat):Prop where
 len:(Q rc)≠0
 key:Qc (rc.getD 0 0:Nat)=0
 take:Wn (UD (rc.getD 0 0)) 0 0 JP (rc.drop 1)=0
 plain:(X7 rc).length=42
 prv:QK Wo ((X7 rc).take 22)=0
 dec:Qq ((X7 rc).drop 22)=0
 Zm:¬(Xz ((X7 rc).drop 22) 0≠0/\Xz ((X7 rc).drop 22) 1≠(rc.getD 0 0:Nat))
theorem Ga(rc:List Nat)(now:Int):YK rc now=0↔Znn rc/\BP (X7 rc) now=0:=by
 unfold YK DT cK cJ cI mK
 constructor
 .intro h;by_cases c1:(Q rc)=0
  .rw[if_pos c1]at h;cases h
  rw[if_neg c1]at h;by_cases c2:Qc (rc.getD 0 0:Nat)≠0
  .rw[if_pos c2]at h;exact (c2 h).elim
  rw[if_neg c2]at h;by_cases c3:Wn (UD (rc.getD 0 0)) 0 0 JP (rc.drop 1)≠0
  .rw[if_pos c3]at h;exact (c3 h).elim
  rw[if_neg c3]at h;by_cases c4:(X7 rc).length≠42
  .rw[if_pos c4]at h;cases h
  rw[if_neg c4]at h;by_cases c5:QK Wo ((X7 rc).take 22)≠0
  .rw[if_pos c5]at h;exact (c5 h).elim
  rw[if_neg c5]at h;by_cases c6:Qq ((X7 rc).drop 22)≠0
  .rw[if_pos c6]at h;exact (c6 h).elim
  rw[if_neg c6]at h;by_cases c7:Xz ((X7 rc).drop 22) 0≠0/\Xz ((X7 rc).drop 22) 1≠(rc.getD 0 0:Nat)
  .rw[if_pos c7]at h;cases h
  rw[if_neg c7]at h;exact⟨⟨c1,nT,nT,nT,nT,nT,c7⟩,h⟩
 .rintro⟨o,h⟩;rw[if_neg o.len,if_neg (fun q=>q o.key),if_neg (fun q=>q o.take),if_neg (fun q=>q o.plain),if_neg (fun q=>q o.prv),if_neg (fun q=>q o.dec),if_neg o.Zm];exact h
theorem IZ{d:List Nat}{now Ae:Int}(h:YK d Ae=0)(h0:0<=now)(hn:now<=Ae):YK d now=0/\Xl d now=Xl d Ae:=by
 have h1:YK d now=0:=by
  obtain⟨o,a⟩:=(Ga d Ae).1 h;exact (Ga d now).2 ⟨o,kf a h0 hn⟩
 refine⟨h1,?_⟩;unfold Xl;rw[if_pos h,if_pos h1]
theorem Us{cs:List aw}{j:Nat}(v:aw)(i:Nat)(h:i≠j):ci (cs.set j v) i=ci cs i:=by
 unfold ci;rw[YW,YW,List.getElem?_set_ne (fun e=>h e.symm)]
theorem Zeu{cs:List aw}(h:Xq cs=false):(∀i,i<8->Mk cs i=false)/\∀i,i<8->Ml cs i=false:=by
 refine⟨fun i hi=>?_,fun i hi=>?_⟩
 .cases e:Mk cs i with
  | false=>rfl
  | true=>rw[Qh i hi (.inl e)]at h;cases h
 .cases e:Ml cs i with
  | false=>rfl
  | true=>rw[Qh i hi (.inr e)]at h;cases h
theorem Cg{cs:List aw}(hl:(Q cs)=40)(hb:Xq cs=false)(k c s n v:Nat)(hk:k<=3)(hc:c<=7)(hs:s<=1048576)(hn:n<=7)(hv:v<=1073741824):Xq (QA cs k c s n v).cells=false:=by
 obtain⟨h1,h2⟩:=Zeu hb;unfold QA;split
 .exact hb
 split
 .exact hb
 split
 .exact hb
 split
 .exact hb
 have hal:(Wg cs k c n v).1.length=40:=by rw[IN,hl]
 have hai:∀j,8<=j->j<32->ci (Wg cs k c n v).1 j=ci cs j:=fun j q1 q2=>BK cs k c n v hn j q1 q2;have hav:∀j,j<8->Mk (Wg cs k c n v).1 j=false:=fun j hj=>by
  unfold Wg;split
  .by_cases e:j=n
   .unfold Mk;rw[e,Su nT];simp;omega
   .have:=h1 j hj;unfold Mk at this ⊢;rw[Us _ _ e];exact this
  .split
   .exact h1 j hj
   .have:=h1 j hj;unfold Mk at this ⊢;rw[Us _ _ nT];exact this
 obtain⟨A,hA⟩:=ZN ((Wg cs k c n v).1);rw[<-hA]at hal hai hav ⊢;refine Li (fun i hi=>?_) (fun i hi=>?_)
 .have:=hav i hi;unfold Mk at this ⊢;rw[Us _ _ nT,Us _ _ nT,Us _ _ nT];exact this
 .have:=h2 i hi;unfold Ml at this ⊢;by_cases e:i=c
  .subst e;have e1:ci ((((A.set (8+i) (ab Z ((s:Int)+1))).set (16+i*2) (ab Z 0)).set (16+i*2+1) (ab Z (Wg cs k i n v).2))) (8+i)=(s:Int)+1:=by
    rw[Us _ _ nT,Us _ _ nT,Su nT]
   rw[e1];refine decide_eq_false ?_;omega
  .rw[Us _ _ nT,Us _ _ nT,Us _ _ nT,Us _ _ nT,Us _ _ nT,Us _ _ nT,Us _ _ nT,Us _ _ nT,Us _ _ nT,hai _ nT nT,hai _ nT nT,hai _ nT nT];exact this
theorem kh:∀(l:List Cm) (st:bY),Fp st->Xq st.cs=false->(∀x∈l,x.err=0)->(Pa st l).1=0:=by
 intro l
 induction l with
 | nil=>intro st _ _ _;rfl
 | cons x l ih=>
  intro st ok hb hl;have he:Y0 x.k x.c x.s x.n x.v=0:=hl x uK;have h0:UO st.cs x=0:=by
   unfold UO OB;rw[hb,if_neg Iw];exact he
  rw[LH h0];refine ih _ (H4 ok h0).1 ?_ (fun y hy=>hl y (by simp[hy]));obtain⟨k,c,s,n,v,e1,e2,e3,e4,e5,y1,y2,y3,y4,y5⟩:=Jr he;show Xq (JK st.cs x).cells=false;unfold JK;rw[e1,e2,e3,e4,e5];exact Cg (YE ok.fit) hb _ _ _ _ _ y1 y2 y3 y4 y5
theorem I0{l:List Cm}(h:∀x∈l,x.err=0):Pc l=0:=kh l Fo HY rfl h
theorem ZaP(key:List Nat)(k:Nat)(ZC data:List Nat):Wm key k ZC (Wm key k ZC data)=data:=by
 have hl:(Wm key k ZC data).length=(Q data):=Ju _ _ _ _;refine List.ext_getElem (by rw[Ju,hl]) fun i h1 h2=>?_;have e:(Wm key k ZC data).getD i 0=aR key k ZC data i:=by
  unfold Wm;rw[be,bf,bk h2];rfl
 have e2:data.getD i 0=data[i]:=by rw[be,a1 h2];rfl
 have e3:(Wm key k ZC (Wm key k ZC data))[i]=aR key k ZC (Wm key k ZC data) i:=by
  have:(Wm key k ZC (Wm key k ZC data))[i]? = U (aR key k ZC (Wm key k ZC data) i):=by
   conv=>lhs;unfold Wm
   rw[bf];have:(bl (List.map (aR key k ZC data) (bl (Q data))).length)[i]? = U i:=by
    rw[bk (by rw[a4,List.length_range];exact h2)]
   rw[this];rfl
  rw[a1 h1]at this;exact Option.some.inj this
 rw[e3];unfold aR at e ⊢;rw[e,e2,Nat.xor_assoc,Nat.xor_self,Nat.xor_zero]
theorem Ch(n:Nat)(hn:n<4294967296)(l:List Nat):VD (YH n++l)=n:=by
 unfold VD YH;simp only[bp,List.getD_cons_zero,List.getD_cons_succ];omega
theorem sQ(kl:List Nat)(n:Nat)(hn:n<4294967296)(plain:List Nat):DO kl (TB kl n plain)=plain:=by
 have hd:(TB kl n plain).drop 4=Rp kl (XM (YH n)) (YH n) plain:=by
  unfold TB;rw[List.drop_append_of_le_length (by show 4<=4;omega),show (YH n).drop 4=[] from rfl,bb]
 unfold DO;rw[hd,show VD (TB kl n plain)=n from Ch n hn _];unfold mz Rp;have ht:(QB kl (XM (YH n)) (YH n) (Wm kl 1 (XM (YH n)) plain)).length=16:=Sq _ _;rw[ae,ht,Nat.add_sub_cancel,List.take_left];exact ZaP _ _ _ _
theorem sR(key:List Nat)(c r u:Nat)(hu:u<4294967296):XD (Rt key c r u) 2=u:=by
 have:XD (Rt key c r u) 2=u/16777216%256*16777216+u/65536%256*65536+u/256%256*256+u%256:=by simp[XD,Rt,bV,Xj]
 rw[this];exact RD hu
def WZ(n:Nat):Raw:=⟨9,n,0,0,[]⟩
def Wx(n:Nat):Raw:=⟨3,n,0,0,[]⟩
def TK(k:Nat):List Raw:=(bl k).map Wx
def XZ(k:Nat):List Raw:=(bl k).map WZ
def SZ:List Raw:=TK 5++[dD]
def Ul(k:Nat):List Raw:=(List.replicate k SZ).flatten
def Qt(l:List Raw)(many:Nat):List Raw:=(l++XZ 5)++Ul many
theorem dM(k:Nat):TK (k+1)=TK k++[Wx k]:=by unfold TK;rw[bw,a8];rfl
theorem Af(k:Nat):XZ (k+1)=XZ k++[WZ k]:=by unfold XZ;rw[bw,a8];rfl
theorem MD(k:Nat):Ul (k+1)=Ul k++SZ:=by
 unfold Ul;rw[List.replicate_succ',List.flatten_append];simp
theorem FZ(k:Nat):(TK k).length=k:=by unfold TK;simp
theorem ON(k:Nat):(XZ k).length=k:=by unfold XZ;simp
theorem Ci(k:Nat):(Ul k).length=6*k:=by
 induction k with
 | zero=>rfl
 | succ k ih=>rw[MD,ae,ih];unfold SZ;rw[ae,FZ];simp;omega
theorem Sx(l:List Raw)(k:Nat):(Qt l k).length=(Q l)+5+6*k:=by
 unfold Qt;rw[ae,ae,ON,Ci]
theorem Pk{k:Nat}{x:Raw}(h:x∈XZ k):∃n,n<k/\x=WZ n:=by
 unfold XZ at h;obtain⟨n,hn,rfl⟩:=ao.1 h;exact⟨n,bd.1 hn,rfl⟩
theorem Cj{k:Nat}{x:Raw}(h:x∈TK k):∃n,n<k/\x=Wx n:=by
 unfold TK at h;obtain⟨n,hn,rfl⟩:=ao.1 h;exact⟨n,bd.1 hn,rfl⟩
theorem L9{k:Nat}{x:Raw}(h:x∈Ul k):(∃n,n<5/\x=Wx n)\/x=dD:=by
 unfold Ul at h;obtain⟨l,hl,hx⟩:=bg.1 h;rw[(List.mem_replicate.1 hl).2]at hx;unfold SZ at hx;rcases aa.1 hx with hx|hx
 .exact .inl (Cj hx)
 .exact .inr (am.1 hx)
theorem ki{k:Nat}{x:Raw}(h:x∈Qt l k):x∈l\/(∃n,n<5/\x=WZ n)\/(∃n,n<5/\x=Wx n)\/x=dD:=by
 unfold Qt at h;rcases aa.1 h with h|h
 .rcases aa.1 h with h|h
  .exact .inl h
  .exact .inr (.inl (Pk h))
 .exact .inr (.inr (L9 h))
theorem sU:(∀n,n<5->(WZ n).err=0)/\(∀n,n<5->(Wx n).err=0)/\dD.err=0:=Iw
theorem F0(h:∀x∈l,x.err=0)(k:Nat):∀x∈Qt l k,x.err=0:=fun x hx=>by
 obtain⟨e1,e2,e3⟩:=sU;rcases ki hx with hx|⟨n,hn,rfl⟩|⟨n,hn,rfl⟩|rfl
 .exact h x hx
 .exact e1 n hn
 .exact e2 n hn
 .exact e3
theorem ZaQ{A:List Raw}(hA:∀x∈A,x.err=0){S:Cm->Prop}(hS:∀x∈A,x.k=1->∀now:Nat,YK x.data now=0->S (Xl x.data now)):
  ∀a∈A.map Raw.ac,sJ S (A.map fun x=>UE x.data) a:=fun a ha=>by
 obtain⟨z,hz,rfl⟩:=ao.1 ha;obtain⟨_,q2,_,q4,_⟩:=BZ (hA z hz);exact⟨⟨by unfold Raw.ac;simp only;omega,ao.2 ⟨z,hz,rfl⟩⟩,q4.1,fun now hk h=>hS z hz hk now h⟩
theorem sV{A:List Raw}(hA:∀x∈A,x.err=0)(hl:(Q A)<=100000){i:Nat}(hi:i<5){x:Cm}(hx:x∈((Xc A).Zb i).Zw):x=Nv\/∃a∈A,a.k=1/\YK a.data 0=0/\x=Xl a.data 0:=by
 have ok:=ZaQ hA (S:=fun x=>∃a∈A,a.k=1/\YK a.data 0=0/\x=Xl a.data 0) (fun z hz hk now h=>by
  obtain⟨q1,q2⟩:=IZ h (now:=0) nT nT;exact⟨z,hz,hk,q1,q2.symm⟩)
 exact ZaL (by rw[a4];exact hl) (A.map Raw.ac) ok i hi x hx
theorem nF{rc:List Nat}{now:Int}(h:YK rc now=0):(Xl rc now).err=0:=by
 obtain⟨o,_⟩:=(Ga rc now).1 h;have hd:=o.dec;unfold Xl;rw[if_pos h];unfold Qo.err;simp only;unfold Qq at hd;rw[if_pos (by rw[List.length_drop,o.plain])]at hd;exact hd
theorem Zev{α β:Type}{R:α->β->Prop}{l:List α}{k:List β}(s:az R l k):∀(i:Nat) (h1:i<(Q l)) (h2:i<(Q k)),R l[i] k[i]:=by
 induction s with
 | nil=>intro i h1;cases h1
 | cons a _ ih=>
  intro i h1 h2
  cases i with
  | zero=>exact a
  | succ i=>exact ih i (by simpa using h1) (by simpa using h2)
def Zno(w:Wd):List (List Cm):=[(w.Zb 0).Zw,(w.Zb 1).Zw,(w.Zb 2).Zw,(w.Zb 3).Zw,(w.Zb 4).Zw]
theorem sW(w:Wd)(i:Nat)(hi:i<5):(Zno w)[i]'hi=(w.Zb i).Zw:=by
 match i,hi with
 | 0,_=>rfl
 | 1,_=>rfl
 | 2,_=>rfl
 | 3,_=>rfl
 | 4,_=>rfl
theorem jV.Zw{h:Hp}{R:List aw}{w:Wd}{lv tv:aw}{vs:List aw}(s:jV h R w lv tv vs):∃b o c,lv=al (U ⟨b,o,Y⟩) 5 c/\b<h.size/\∀n,n<5->∃x,hc h ⟨b,o+n,Y⟩=U x/\Ts Qo.C 5 h x (w.Zb n).Zw:=by
 have vl:(Q vs)=5:=np s.each;obtain⟨p,c,rfl,XI⟩:=s.Zne.open (n:=1) (enc:=fun v=>[v]) (fun _=>rfl) (show (1:Nat)≠0 by decide);obtain⟨b,o,rfl,hb,hh⟩:=XI (by intro e;rw[e]at vl;cases vl);refine⟨b,o,c,by rw[vl],hb,fun n hn=>⟨vs[n],?_,?_⟩⟩
 .have:=hh n nT;have:=this.hc (i:=0) rfl;rw[Nat.mul_one]at this;exact this
 .have:=Zev s.each n nT hn;rw[show ([(w.Zb 0).Zw,(w.Zb 1).Zw,(w.Zb 2).Zw,(w.Zb 3).Zw,(w.Zb 4).Zw]:List (List Cm))[n]'hn=(w.Zb n).Zw from sW w n hn]at this;exact this
set_option maxHeartbeats 4000000 in
theorem F6(T:World)(h:Hp)(v:aw)(xs:List (Raw × aw))(many:Nat)(hv:Ts WD 5 h v xs)(hx:∀x∈xs,PT LX h x.2 x.1.data)(BD:(Q xs)<=1000000)(hm:many<=1000000):
  Zd a9 T 17 #[v,ab Z many] h fun v' h'=>∃o,JE h o h' v' (Qt (Xe xs) many):=by
 have rl:(Xe xs).length=(Q xs):=by unfold Xe;simp
 refine Zd.XT [_,_] Tryz.func17 ?_;simp only[go_sem];refine (JE.nil h).ZaN uK hv hx nT ?_;intro v1 o1 g1 A1;rw[bb]at A1;simp only[go_sem];refine VS.Yk (fun F g=>F 1=ab Z many/\∃(n:Nat) (o:Ow),n<=5/\F 6=ab Z n/\JE h o g (F 5) (Xe xs++XZ n))
  (fun F _=>5-(vi (F 6)).toNat) rfl ⟨rfl,0,o1,nT,rfl,by rw[show XZ 0=[] from rfl,bc];exact A1⟩ ?_
 rintro F2 g2 ⟨f1,n,o2,hn,f6,A2⟩;obtain⟨p2,c2,f5,_⟩:=A2.ZO;by_cases ZS:n<5
 .have Z7:(n:Int)<5:=nT;rw[f5]at A2;simp only[go_sem,f1,f5,f6,Z7];refine A2.add (by rw[ae,ON];omega) 9 n 0 0 ?_;intro v3 o3 g3 A3;simp only[go_sem,f6];unfold XU;refine⟨⟨f1,n+1,o3,ZS,rfl,?_⟩,?_⟩
  .rw[Af,<-aU];exact A3
  .simp only[vi,Zq,↓reduceIte,f6];omega
 have Xv:¬(n:Int)<5:=nT;obtain rfl:n=5:=nT;simp only[go_sem,f1,f6];refine VS.Yk (fun F g=>F 1=ab Z many/\∃(i:Nat) (o:Ow),i<=many/\F 7=ab Z i/\JE h o g (F 5) ((Xe xs++XZ 5)++Ul i))
  (fun F _=>many-(vi (F 7)).toNat) rfl ⟨f1,0,o2,nT,rfl,by rw[show Ul 0=[] from rfl,bc];exact A2⟩ ?_
 clear f1 f5 f6 A2;rintro F3 g3 ⟨f1,i,o3,hi,f7,A3⟩;by_cases ZS:i<many
 .have Z7:(i:Int)<many:=nT;simp only[go_sem,f1,f7,Z7];refine VS.Yk (fun F g=>(F 1=ab Z many/\F 7=ab Z i)/\∃(n:Nat) (o:Ow),n<=5/\F 8=ab Z n/\JE h o g (F 5) (((Xe xs++XZ 5)++Ul i)++TK n))
   (fun F _=>5-(vi (F 8)).toNat) rfl ⟨⟨f1,f7⟩,0,o3,nT,rfl,by rw[show TK 0=[] from rfl,bc];exact A3⟩ ?_
  clear f1 f7 A3;rintro F4 g4 ⟨⟨f1,f7⟩,n,o4,hn,f8,A4⟩;obtain⟨p4,c4,f5,_⟩:=A4.ZO;rw[f5]at A4;have hlen:(((Xe xs++XZ 5)++Ul i)++TK n).length<=100000000:=by
   rw[ae,ae,ae,ON,Ci,FZ];omega
  by_cases hn5:n<5
  .have Znp:(n:Int)<5:=nT;simp only[go_sem,f1,f5,f7,f8,Znp];refine A4.add nT 3 n 0 0 ?_;intro v5 o5 g5 A5;simp only[go_sem,f8];unfold XU;refine⟨⟨⟨f1,f7⟩,n+1,o5,hn5,rfl,?_⟩,?_⟩
   .rw[dM,<-aU];exact A5
   .simp only[vi,Zq,↓reduceIte,f8];omega
  .have Znp:¬(n:Int)<5:=nT;obtain rfl:n=5:=nT;simp only[go_sem,f1,f5,f7,f8];refine A4.add nT 7 0 0 0 ?_;intro v5 o5 g5 A5;simp only[go_sem,f7];unfold XU;refine⟨⟨f1,i+1,o5,ZS,rfl,?_⟩,?_⟩
   .rw[MD];unfold SZ;rw[<-aU,<-aU];exact A5
   .simp only[vi,Zq,↓reduceIte,f7];omega
 .have Xv:¬(i:Int)<many:=nT;obtain rfl:i=many:=nT;obtain⟨p3,c3,f5,_⟩:=A3.ZO;simp only[go_sem,f1,f5,f7,Xv];rw[f5]at A3;exact⟨_,A3⟩
def TL(w:Wd):Nat->List Cm
 | 0=>[]
 | n+1=>if (TL w n).length<(w.Zb n).Zw.length then (w.Zb n).Zw else TL w n
def lng(w:Wd):List Cm:=TL w 5
theorem sX(w:Wd):∀n,TL w n=[]\/∃i,i<n/\TL w n=(w.Zb i).Zw:=by
 intro n
 induction n with
 | zero=>exact .inl rfl
 | succ n ih=>
  unfold TL;split
  .exact .inr ⟨n,nT,rfl⟩
  .rcases ih with h|⟨i,hi,h⟩
   .exact .inl h
   .exact .inr ⟨i,nT,h⟩
theorem Ag(w:Wd):lng w=[]\/∃i,i<5/\lng w=(w.Zb i).Zw:=sX w 5
theorem ZaR(w:Wd):∀n i,i<n->(w.Zb i).Zw.length<=(TL w n).length:=by
 intro n
 induction n with
 | zero=>intro i h;omega
 | succ n ih=>
  intro i hi;unfold TL;split
  .rename_i q;by_cases e:i=n
   .rw[e];exact ba _
   .have:=ih i nT;omega
  .rename_i q;by_cases e:i=n
   .rw[e];omega
   .exact ih i nT
structure Zwt(R:List aw):Prop where
 len:(Q R)=13
 one:R.all YD=true
 put:Y8 [Value.int Z 0,.bool false,.bool false,.bool false,.bool false,.bool false,al Y 0 0,ab Z 0,ab Z 0,ab Z 0,ab Z 0,ab Z 0,al Y 0 0] 0 R=R
 le:(Q R)<=13
 take:R.take 13=R
theorem jV.ok{h:Hp}{w:Wd}{lv tv:aw}{vs:List aw}(ra:jV h (jU w lv tv) w lv tv vs):Zwt (jU w lv tv)/\(∃b o c,lv=al (U ⟨b,o,Y⟩) 5 c)/\∃p c,tv=al p w.ZA.length c:=by
 obtain⟨b,o,c,hl,_,_⟩:=ra.Zw;obtain⟨pt,ct,ht,_⟩:=ra.ZA.open (n:=5) (enc:=Mu) (fun _=>rfl) (show (5:Nat)≠0 by decide);subst hl;subst ht;exact⟨⟨rfl,rfl,Z4 rfl,ba 13,rfl⟩,⟨b,o,c,rfl⟩,pt,ct,rfl⟩
theorem kj(T:World)(h:Hp)(w:Wd)(lv tv:aw)(vs:List aw)(ra:jV h (jU w lv tv) w lv tv vs):
  Zd a9 T 10 #[.agg (jU w lv tv).toArray] h fun v' h'=>Ts Qo.C 5 h' v' (lng w)/\Zj h.size h h':=by
 obtain⟨b,o,c,rfl,hb,hx⟩:=ra.Zw;obtain⟨R,hR⟩:=ZN (jU w (al (U ⟨b,o,Y⟩) 5 c) tv);rw[<-hR];refine Zd.XT [_] Tryz.func10 ?_;obtain⟨h1,Xm⟩:=ZN (h.push (a5 R.toArray 42):Hp);have e1:=Xm.symm;have b1:Zj h.size h h1:=by rw[Xm];exact (Zj.refl _ _).add _
 have y1:h1[h.size]? = U (a5 R.toArray 42):=by rw[Xm];exact Zc
 have r6:hc h1 ⟨h.size,6,Y⟩=U (al (U ⟨b,o,Y⟩) 5 c):=by rw[Zl y1,hR];rfl
 have ly:=Za y1;simp only[go_sem,e1];refine VS.Yk (fun F g=>g=h1/\F 1=.pointer (U ⟨h.size,0,Y⟩)/\∃n:Nat,n<=5/\F 4=ab Z n/\Ts Qo.C 5 h1 (F 3) (TL w n))
  (fun F _=>5-(vi (F 4)).toNat) rfl ⟨rfl,rfl,0,nT,rfl,⟨(UK.nil 0 0 5 h1).sl⟩⟩ ?_
 rintro F2 g2 ⟨rfl,f1,n,hn,f4,t3⟩;obtain⟨p3,c3,f3,_⟩:=Q2 t3;by_cases ZS:n<5
 .have Z7:(n:Int)<5:=nT;obtain⟨x,rx,tx⟩:=hx n ZS;obtain⟨px,cx,rfl,_⟩:=Q2 tx;have rx2:hc g2 ⟨b,o+n,Y⟩=U (al px (w.Zb n).Zw.length cx):=by rw[b1.hc (by exact hb)];exact rx
  have tx2:=tx.Yz b1;by_cases hgt:((w.Zb n).Zw.length:Int)>(TL w n).length
  .simp only[go_sem,f1,f3,f4,r6,Z7,rx2,hgt];unfold XU;refine⟨⟨rfl,f1,n+1,ZS,rfl,?_⟩,?_⟩
   .have e:TL w (n+1)=(w.Zb n).Zw:=by rw[TL,if_pos nT]
    rw[e];exact tx2
   .simp only[vi,Zq,↓reduceIte,f4];omega
  .simp only[go_sem,f1,f3,f4,r6,Z7,rx2,hgt];unfold XU;refine⟨⟨rfl,f1,n+1,ZS,rfl,?_⟩,?_⟩
   .have e:TL w (n+1)=TL w n:=by rw[TL,if_neg nT]
    rw[e];exact t3
   .simp only[vi,Zq,↓reduceIte,f4];omega
 .have Xv:¬(n:Int)<5:=nT;obtain rfl:n=5:=nT;rw[f3]at t3;simp only[go_sem,f1,f3,f4,r6];exact⟨t3,b1⟩
def Xf(n:Nat):Raw:=⟨2,n,0,0,[]⟩
def F8(k:Int):Prop:=k=1\/k=2\/k=6\/k=8
instance (k:Int):Decidable (F8 k):=by unfold F8;infer_instance
def manyN(l:List Raw):Nat->Nat
 | 0=>100
 | i+1=>match l[i]? with
  | some x=>if F8 x.k then manyN l i+20 else manyN l i
  | none=>manyN l i
theorem ZaS(l:List Raw):∀i,manyN l i<=100+20*i:=by
 intro i
 induction i with
 | zero=>exact ba _
 | succ i ih=>
  unfold manyN
  cases l[i]? with
  | none=>simp only;omega
  | some x=>simp only;split<;>omega
def Jw(l:List Raw)(n many:Nat):List Raw:=Qt (Qt l 0++[Xf n]) many
def VH(l:List Raw)(n many:Nat):Nat->List Raw
 | 0=>l
 | k+1=>Jw (VH l n many k) n many
def Xr(l:List Raw)(n:Nat):List Raw:=VH l n (manyN l (Q l)) 2
theorem RF(l:List Raw)(n many:Nat):(Jw l n many).length=(Q l)+11+6*many:=by
 unfold Jw;rw[Sx,ae,Sx,bh]
theorem ko(l:List Raw)(n many k:Nat):(VH l n many k).length=(Q l)+k*(11+6*many):=by
 induction k with
 | zero=>simp[VH]
 | succ k ih=>rw[VH,RF,ih,Nat.add_mul k 1 (11+6*many),Nat.one_mul];omega
theorem Ah{n:Nat}(h:n<5):(Xf n).err=0:=by
 have:∀n<5,(Xf n).err=0:=Iw;exact this n h
theorem sY(h:∀x∈l,x.err=0){n:Nat}(hn:n<5)(many k:Nat):∀x∈VH l n many k,x.err=0:=by
 induction k with
 | zero=>exact h
 | succ k ih=>
  unfold VH Jw;refine F0 (fun x hx=>?_) many;rcases aa.1 hx with hx|hx
  .exact F0 ih 0 x hx
  .rw[am.1 hx];exact Ah hn
set_option maxHeartbeats 4000000 in
theorem I1(T:World)(h:Hp)(v:aw)(xs:List (Raw × aw))(n:Nat)(hn:n<5)(hv:Ts WD 5 h v xs)(hx:∀x∈xs,PT LX h x.2 x.1.data)(BD:(Q xs)<=3000):
  Zd a9 T 7 #[v,ab Z n] h fun v' h'=>∃hk o,Zj h.size h hk/\JE hk o h' v' (Xr (Xe xs) n):=by
 have rl:(Xe xs).length=(Q xs):=by unfold Xe;simp
 obtain⟨p,c,rfl,XI⟩:=hv.open FQ Iw;refine Zd.XT [_,_] Tryz.func7 ?_;simp only[go_sem];refine VS.Yk (fun F g=>g=h/\F 0=al p (Q xs) c/\F 1=ab Z n/\∃i:Nat,i<=(Q xs)/\F 6=ab Z i/\F 5=ab Z (manyN (Xe xs) i))
  (fun F _=>(Q xs)-(vi (F 6)).toNat) rfl ⟨rfl,rfl,rfl,0,Nat.zero_le _,rfl,rfl⟩ ?_
 rintro F g ⟨rfl,f0,f1,i,hi,f6,f5⟩;have fI:=ZaS (Xe xs) i;obtain⟨M,hM⟩:=ZN (manyN (Xe xs) i);rw[<-hM]at f5 fI;by_cases ZS:i<(Q xs)
 .have Z7:(i:Int)<(Q xs):=nT;obtain⟨bs,os,rfl,ui,PH⟩:=XI (by intro e;rw[e]at ZS;simp at ZS);obtain⟨x,O3⟩:=ZN (xs[i]);have ca:JG g bs (os+i*5) (WD x):=by rw[O3];exact PH i ZS
  have r0:hc g ⟨bs,os+i*5,Y⟩=U (ab Z x.1.k):=ca.hc (i:=0) rfl;have hxr:(Xe xs)[i]? = U x.1:=by unfold Xe;rw[bf,a1 ZS,<-O3];rfl
  have ZaT:F8 x.1.k->manyN (Xe xs) (i+1)=M+20:=fun q=>by rw[manyN,hxr];simp only;rw[if_pos q,hM]
  have AG:¬F8 x.1.k->manyN (Xe xs) (i+1)=M:=fun q=>by rw[manyN,hxr];simp only;rw[if_neg q,hM]
  obtain⟨M',hM'⟩:=ZN (manyN (Xe xs) (i+1));rw[<-hM']at ZaT AG;by_cases q1:x.1.k=1
  .have hb:=ZaT (.inl q1);simp only[go_sem,f0,f1,f5,f6,Z7,r0,q1];unfold XU;refine⟨⟨rfl,f0,f1,i+1,ZS,rfl,?_⟩,?_⟩
   .rw[<-hM',hb];rfl
   .simp only[vi,Zq,↓reduceIte,f6];omega
  by_cases q2:x.1.k=2
  .have hb:=ZaT (.inr (.inl q2));simp only[go_sem,f0,f1,f5,f6,Z7,r0,q2];unfold XU;refine⟨⟨rfl,f0,f1,i+1,ZS,rfl,?_⟩,?_⟩
   .rw[<-hM',hb];rfl
   .simp only[vi,Zq,↓reduceIte,f6];omega
  by_cases q3:x.1.k=6
  .have hb:=ZaT (.inr (.inr (.inl q3)));simp only[go_sem,f0,f1,f5,f6,Z7,r0,q3];unfold XU;refine⟨⟨rfl,f0,f1,i+1,ZS,rfl,?_⟩,?_⟩
   .rw[<-hM',hb];rfl
   .simp only[vi,Zq,↓reduceIte,f6];omega
  by_cases q4:x.1.k=8
  .have hb:=ZaT (.inr (.inr (.inr q4)));simp only[go_sem,f0,f1,f5,f6,Z7,r0,q4];unfold XU;refine⟨⟨rfl,f0,f1,i+1,ZS,rfl,?_⟩,?_⟩
   .rw[<-hM',hb];rfl
   .simp only[vi,Zq,↓reduceIte,f6];omega
  .have hb:=AG (by rintro (q|q|q|q)<;>contradiction);simp only[go_sem,f0,f1,f5,f6,Z7,r0,q1,q2,q3,q4];unfold XU;refine⟨⟨rfl,f0,f1,i+1,ZS,rfl,?_⟩,?_⟩
   .rw[<-hM',hb];exact f5
   .simp only[vi,Zq,↓reduceIte,f6];omega
 have Xv:¬(i:Int)<(Q xs):=nT;obtain rfl:i=(Q xs):=nT;have hMM:Xr (Xe xs) n=VH (Xe xs) n M 2:=by unfold Xr;rw[rl,hM]
 rw[hMM];clear hM;simp only[go_sem,f0,f6,Xv];refine (JE.nil g).ZaN uK hv hx nT ?_;intro v1 o1 g1 A1;rw[bb]at A1;simp only[go_sem,f1,f5];refine VS.Yk (fun F2 g2=>F2 1=ab Z n/\F2 5=ab Z M/\∃k:Nat,k<=2/\F2 8=ab Z k/\∃hk o,Zj g.size g hk/\JE hk o g2 (F2 7) (VH (Xe xs) n M k))
  (fun F2 _=>2-(vi (F2 8)).toNat) rfl ⟨f1,f5,0,nT,rfl,g,o1,Zj.refl _ _,A1⟩ ?_
 clear f0 f1 f5 f6 A1;rintro F2 g2 ⟨f1,f5,k,hk,f8,hk0,ok,Bk,A2⟩;obtain⟨B2',C2,ys2,hr2,t2,i2⟩:=A2.done;have B2:Zj g.size g g2:=Bk.trans (B2'.mono Bk.size);have yl:(Q ys2)=(Q xs)+k*(11+6*M):=by
  have:=congrArg Q hr2;rw[ko,rl]at this;rw[<-this];unfold Xe;simp
 have hkm:k*(11+6*M)<=2*(11+6*M):=Nat.mul_le_mul_right _ hk;obtain⟨p2,c2,f7,_⟩:=t2.open FQ Iw;by_cases hk2:k<2
 .have Zik:(k:Int)<2:=nT;rw[f7]at t2;simp only[go_sem,f1,f5,f7,f8,Zik];refine (F6 T g2 _ ys2 0 t2 i2 nT nT).use ?_;rintro v3 g3 ⟨o3,A3⟩;obtain⟨p3,c3,rfl,_⟩:=A3.ZO;have B3:=A3.done.1;simp only[go_sem,f1,f5,f8];refine A3.add (by rw[Sx];unfold Xe;rw[a4];omega) 2 n 0 0 ?_;intro v4 o4 g4 A4;obtain⟨B4,C4,ys4,hr4,t4,i4⟩:=A4.done;have yl4:(Q ys4)=(Q ys2)+6:=by
   have:=congrArg Q hr4;rw[ae,Sx]at this;unfold Xe at this;simp only[a4,bh]at this;omega
  simp only[go_sem,f1,f5,f8];refine (F6 T g4 _ ys4 M t4 i4 nT nT).use ?_;rintro v5 g5 ⟨o5,A5⟩;rw[hr4,hr2]at A5;simp only[go_sem,f8];unfold XU;refine⟨⟨f1,f5,k+1,hk2,rfl,g4,o5,B2.trans (B4.mono B2.size),A5⟩,?_⟩;simp only[vi,Zq,↓reduceIte,f8];omega
 .have Zik:¬(k:Int)<2:=nT;obtain rfl:k=2:=nT;rw[f7]at A2;simp only[go_sem,f7,f8,Zik];exact⟨hk0,ok,Bk,A2⟩
theorem dN(T:World)(h:Hp)(v:aw)(xs:List (Raw × aw))(n:Nat)(hn:n<5)(hv:Ts WD 5 h v xs)(hx:∀x∈xs,PT LX h x.2 x.1.data)(BD:xs.length<=3000):
  Zd a9 T 7 #[v,.int .i64 n] h fun v' h'=>Zj h.size h h'/\PM v'/\∃ys,Xe ys=Xr (Xe xs) n/\Ts WD 5 h' v' ys/\∀y∈ys,PT LX h' y.2 y.1.data:=by
 refine (I1 T h v xs n hn hv hx BD).mono ?_;rintro v' h' ⟨hk,o,B,A⟩;obtain⟨b,c,q⟩:=A.done;exact⟨B.trans (b.mono B.size),c,q⟩
def I2(w:Wd)(i:Nat):Wd:=w.out i (step (w.Zb i))
def F9(w:Wd):Wd:=I2 (I2 (I2 (I2 (I2 w 0) 1) 2) 3) 4
def ZaU(w:Wd):Wd:=w.Zo.foldl Q0 { w with Zo:=[] }
def kq(w:Wd):Wd:=ZaU (F9 w)
def QM:Nat->Wd->Wd
 | 0,w=>w
 | k+1,w=>kq (QM k w)
theorem UF(w:Wd)(n:Nat):act w (Wx n).ac=I2 w n:=by
 unfold act Wx Raw.ac I2;simp
theorem nG(w:Wd):act w dD.ac=ZaU w:=by
 unfold act dD Raw.ac ZaU;simp
theorem Pm(l k:List Raw):Xc (l++k)=(k.map Raw.ac).foldl act (Xc l):=by
 unfold Xc Mt;rw[a8,List.foldl_append]
theorem sZ(l:List Raw):Xc (l++SZ)=kq (Xc l):=by
 rw[Pm];show act (act (act (act (act (act (Xc l) (Wx 0).ac) (Wx 1).ac) (Wx 2).ac) (Wx 3).ac) (Wx 4).ac) dD.ac=_;rw[UF,UF,UF,UF,UF,nG];rfl
theorem ZaV(l:List Raw):∀k,Xc (l++Ul k)=QM k (Xc l):=by
 intro k
 induction k with
 | zero=>rw[show Ul 0=[] from rfl,bc];rfl
 | succ k ih=>rw[MD,<-aU,sZ,ih];rfl
theorem Vw(w:Wd)(n:Nat)(hu:(w.Zb n).up=true):act w (WZ n).ac=w:=by
 have e:act w (WZ n).ac=w.set n (started n (w.Zb n)):=by
  unfold act WZ Raw.ac;simp
 rw[e];unfold started;rw[if_pos hu];unfold Wd.set
 congr 1
 funext j
 split
 .rename_i q;rw[q]
 .rfl
theorem Ea(l:List Raw)(hu:∀i,i<5->((Xc l).Zb i).up=true):Xc (l++XZ 5)=Xc l:=by
 rw[Pm];show act (act (act (act (act (Xc l) (WZ 0).ac) (WZ 1).ac) (WZ 2).ac) (WZ 3).ac) (WZ 4).ac=_;rw[Vw _ _ (hu 0 nT),Vw _ _ (hu 1 nT),Vw _ _ (hu 2 nT),Vw _ _ (hu 3 nT),Vw _ _ (hu 4 nT)]
theorem dO:∀(ls:List YF) (w:Wd) (i:Nat),(ls.foldl Q0 w).Zb i=if (w.Zb i).up=true then { w.Zb i with Zf:=(w.Zb i).Zf++ls.filter (fun l=>decide (l.to.toNat=i)) } else w.Zb i:=by
 intro ls
 induction ls with
 | nil=>intro w i;simp
 | cons l ls ih=>
  intro w i;rw[a2,ih];unfold Q0;by_cases e:i=l.to.toNat
  .subst e;by_cases hu:(w.Zb l.to.toNat).up=true
   .rw[if_pos hu];unfold Wd.set;simp only[if_true,hu,br,decide_true,aU,bp,bb]
   .rw[if_neg hu,if_neg hu,if_neg hu]
  .have hf:(l :: ls).filter (fun l=>decide (l.to.toNat=i))=ls.filter (fun l=>decide (l.to.toNat=i)):=by
    rw[br,if_neg];simp;exact fun q=>e q.symm
   rw[hf];split
   .unfold Wd.set;simp only[if_neg e]
   .rfl
def T8(w:Wd):List YF:=w.Zo++(step (w.Zb 0)).ls++(step (w.Zb 1)).ls++(step (w.Zb 2)).ls++(step (w.Zb 3)).ls++(step (w.Zb 4)).ls
theorem kr(w:Wd):(F9 w).Zo=T8 w:=by
 unfold F9 T8 I2 Wd.out;simp
theorem td(w:Wd)(i:Nat)(hi:i<5):(F9 w).Zb i=(step (w.Zb i)).n:=by
 match i,hi with
 | 0,_=>rfl
 | 1,_=>rfl
 | 2,_=>rfl
 | 3,_=>rfl
 | 4,_=>rfl
theorem Qf(w:Wd)(i:Nat)(hi:i<5)(hu:(w.Zb i).up=true):(kq w).Zb i = { (step (w.Zb i)).n with Zf:=(step (w.Zb i)).n.Zf++(T8 w).filter (fun l=>decide (l.to.toNat=i)) }:=by
 unfold kq ZaU;have e:({ F9 w with Zo:=[] }:Wd).Zb i=(step (w.Zb i)).n:=td w i hi;rw[dO,e,if_pos (by rw[(KW (w.Zb i)).1];exact hu),kr]
theorem Ka(w:Wd):(kq w).Zo=[]:=by
 unfold kq ZaU;exact (j9 _ _).2.2
theorem UG{w:Wd}{l:YF}:l∈T8 w↔l∈w.Zo\/∃i,i<5/\l∈(step (w.Zb i)).ls:=by
 unfold T8;simp only[aa]
 constructor
 .rintro (((((h|h)|h)|h)|h)|h)
  .exact .inl h
  .exact .inr ⟨0,nT,h⟩
  .exact .inr ⟨1,nT,h⟩
  .exact .inr ⟨2,nT,h⟩
  .exact .inr ⟨3,nT,h⟩
  .exact .inr ⟨4,nT,h⟩
 .rintro (h|⟨i,hi,h⟩)
  .exact .inl (.inl (.inl (.inl (.inl h))))
  .match i,hi with
   | 0,_=>exact .inl (.inl (.inl (.inl (.inr h))))
   | 1,_=>exact .inl (.inl (.inl (.inr h)))
   | 2,_=>exact .inl (.inl (.inr h))
   | 3,_=>exact .inl (.inr h)
   | 4,_=>exact .inr h
theorem Sy{w:Wd}{i:Nat}(hi:i<5)(hu:(w.Zb i).up=true){l:YF}:l∈((kq w).Zb i).Zf↔l∈(step (w.Zb i)).n.Zf\/(l∈T8 w/\l.to.toNat=i):=by
 rw[Qf w i hi hu];simp only[aa,a0,decide_eq_true_eq]
structure Laws(I:Nd->Prop)(J K:YF->Prop):Prop where
 box:∀n k,I n->I { n with Zf:=k }
 ku:∀n l,I n->n.Zp=Y->J l->I (Zu n l).n/\∀m∈(Zu n l).ls,K m
 kv:∀n,I n->n.Zp=Y->I (Yi n).n/\∀m∈(Yi n).ls,K m
 fin:∀n p,I n->n.Zp=U p->I (YL (ZM n) p).n/\∀m∈(YL (ZM n) p).ls,K m
def VI(n:Nd):Prop:=n.Zp=Y/\(Zy n n.Zf).n.Zp=Y
theorem JF{I:Nd->Prop}{J K:YF->Prop}(W:Laws I J K):∀(k:List YF) (n:Nd),I n->(∀l∈k,J l)->I (Zy n k).n/\(∀m∈(Zy n k).ls,K m)/\∀l∈(Zy n k).n.Zf,l∈k:=by
 intro k
 induction k with
 | nil=>
  intro n h _;unfold Zy;exact⟨W.box _ _ h,(fun m hm=>by cases hm),(fun l hl=>by cases hl)⟩
 | cons l k ih=>
  intro n h hk;unfold Zy;by_cases hp:n.Zp.isSome=true
  .rw[if_pos hp];exact⟨W.box _ _ h,(fun m hm=>by cases hm),fun m hm=>hm⟩
  .rw[if_neg hp];have uF:({ n with Zf:=k }:Nd).Zp=Y:=by
    show n.Zp=Y
    cases q:n.Zp with
    | none=>rfl
    | some p=>rw[q]at hp;exact absurd rfl hp
   obtain⟨h1,h2⟩:=W.ku { n with Zf:=k } l (W.box _ _ h) uF (hk l uK);obtain⟨h3,h4,h5⟩:=ih _ h1 (fun m hm=>hk m (by simp[hm]));refine⟨h3,fun m hm=>?_,fun m hm=>List.mem_cons_of_mem _ (h5 m hm)⟩;rcases aa.1 hm with hm|hm
   .exact h2 m hm
   .exact h4 m hm
theorem Va{I:Nd->Prop}{J K:YF->Prop}(W:Laws I J K)(hu:n.up=true)(h:I n)(hb:∀l∈n.Zf,J l):I (step n).n/\(∀m∈(step n).ls,K m)/\∀l∈(step n).n.Zf,l∈n.Zf:=by
 unfold step;rw[if_pos hu]
 cases hp:n.Zp with
 | some p=>
  simp only;obtain⟨h1,h2⟩:=W.fin n p h hp;exact⟨h1,h2,fun l hl=>by rw[L6]at hl;exact hl⟩
 | none=>
  simp only;obtain⟨h1,h2,h3⟩:=JF W n.Zf n h hb;split
  .exact⟨h1,h2,h3⟩
  .rename_i q;have q0:(Zy n n.Zf).n.Zp=Y:=by
    cases e:(Zy n n.Zf).n.Zp with
    | none=>rfl
    | some p=>rw[e]at q;exact absurd rfl q
   obtain⟨h4,h5⟩:=W.kv _ h1 q0;refine⟨h4,fun m hm=>?_,fun l hl=>?_⟩
   .rcases aa.1 hm with hm|hm
    .exact h2 m hm
    .exact h5 m hm
   .simp only at hl;rw[FY]at hl;exact h3 l hl
theorem drain_empty:∀(k:List YF) (n:Nd),(Zy n k).n.Zp=Y->(Zy n k).n.Zf=[]:=by
 intro k
 induction k with
 | nil=>intro n _;unfold Zy;rfl
 | cons l k ih=>
  intro n h;unfold Zy at h ⊢;by_cases hp:n.Zp.isSome=true
  .rw[if_pos hp]at h;have h:n.Zp=Y:=h;rw[h]at hp
   cases hp
  .rw[if_neg hp]at h ⊢;exact ih _ h
theorem Ui(hu:n.up=true)(hf:VI n):step n=⟨(Yi (Zy n n.Zf).n).n,(Zy n n.Zf).ls++(Yi (Zy n n.Zf).n).ls,(Zy n n.Zf).ts++(Yi (Zy n n.Zf).n).ts⟩:=by
 unfold step;rw[if_pos hu,hf.1];simp only;rw[hf.2];rfl
theorem Dc(hu:n.up=true)(hf:VI n):(step n).n.Zf=[]:=by
 rw[Ui hu hf];show (Yi (Zy n n.Zf).n).n.Zf=[]
 rw[FY];exact drain_empty _ _ hf.2
structure ME(I:Nd->Prop)(J A G:YF->Prop)(E F:Nd->Prop):Prop where
 th:∀n k,E n->E { n with Zf:=k }
 Zwv:∀n l,I n->n.Zp=Y->J l->E n->E (Zu n l).n
 Zww:∀n,I n->n.Zp=Y->E n->E (Yi n).n
 Zdo:∀n p,I n->n.Zp=U p->E n->E (YL (ZM n) p).n
 Zil:∀n k,F n->F { n with Zf:=k }
 ZaW:∀n,F n->n.Zp≠Y
 Zwx:∀n p,I n->n.Zp=U p->F n->E (YL (ZM n) p).n\/∃m∈(YL (ZM n) p).ls,G m
 hit:∀n l,I n->n.Zp=Y->J l->A l->E (Zu n l).n\/F (Zu n l).n\/∃m∈(Zu n l).ls,G m
theorem tj{I:Nd->Prop}{J K A G:YF->Prop}{E F:Nd->Prop}(W:Laws I J K)(H:ME I J A G E F):∀(k:List YF) (n:Nd),I n->(∀l∈k,J l)->n.Zp=Y->(E n\/∃l∈k,A l) ->
  E (Zy n k).n\/F (Zy n k).n\/(∃l∈(Zy n k).n.Zf,A l)\/∃m∈(Zy n k).ls,G m:=by
 intro k
 induction k with
 | nil=>
  intro n h _ hp hs;unfold Zy;rcases hs with hs|⟨l,hl,_⟩
  .exact .inl (H.th _ _ hs)
  .cases hl
 | cons l k ih=>
  intro n h hk hp hs;have hI:=W.box n k h;have uF:({ n with Zf:=k }:Nd).Zp=Y:=hp;have hJ:=hk l uK;obtain⟨h1,_⟩:=W.ku _ l hI uF hJ;have e:Zy n (l :: k)=⟨(Zy (Zu { n with Zf:=k } l).n k).n,(Zu { n with Zf:=k } l).ls++(Zy (Zu { n with Zf:=k } l).n k).ls,(Zu { n with Zf:=k } l).ts++(Zy (Zu { n with Zf:=k } l).n k).ts⟩:=by
   conv=>lhs;unfold Zy
   rw[if_neg (by rw[hp];decide)]
  rw[e];simp only;have hj:∀m∈k,J m:=fun m hm=>hk m (by simp[hm])
  -- behind the first letter
  have main:(E (Zu { n with Zf:=k } l).n\/F (Zu { n with Zf:=k } l).n\/(∃m∈(Zu { n with Zf:=k } l).ls,G m))\/∃m∈k,A m:=by
   rcases hs with hs|⟨m,hm,hA⟩
   .exact .inl (.inl (H.Zwv _ l hI uF hJ (H.th _ _ hs)))
   .rcases a7.1 hm with rfl|hm
    .exact .inl (H.hit _ _ hI uF hJ hA)
    .exact .inr ⟨m,hm,hA⟩
  have stop:∀(x:Nd),x.Zp.isSome=true->(Zy x k)=⟨{ x with Zf:=k },[],[]⟩\/k=[]:=fun x hx=>by
   cases k with
   | nil=>exact .inr rfl
   | cons a k=>exact .inl (by unfold Zy;rw[if_pos hx])
  have onF:F (Zu { n with Zf:=k } l).n->F (Zy (Zu { n with Zf:=k } l).n k).n:=fun hF=>by
   have hs:(Zu { n with Zf:=k } l).n.Zp.isSome=true:=by
    have:=H.ZaW _ hF
    cases q:(Zu { n with Zf:=k } l).n.Zp with
    | none=>exact absurd q this
    | some p=>rfl
   rcases stop _ hs with q|q
   .rw[q];exact H.Zil _ _ hF
   .subst q;unfold Zy;exact H.Zil _ _ hF
  rcases main with (hE|hF|⟨m,hm,hG⟩)|hA
  .by_cases hq:(Zu { n with Zf:=k } l).n.Zp=Y
   .rcases ih _ h1 hj hq (.inl hE) with q|q|q|⟨m,hm,q⟩
    .exact .inl q
    .exact .inr (.inl q)
    .exact .inr (.inr (.inl q))
    .exact .inr (.inr (.inr ⟨m,aa.2 (.inr hm),q⟩))
   .have hs:(Zu { n with Zf:=k } l).n.Zp.isSome=true:=by
     cases q:(Zu { n with Zf:=k } l).n.Zp with
     | none=>exact absurd q hq
     | some p=>rfl
    rcases stop _ hs with q|q
    .rw[q];exact .inl (H.th _ _ hE)
    .subst q;unfold Zy;exact .inl (H.th _ _ hE)
  .exact .inr (.inl (onF hF))
  .exact .inr (.inr (.inr ⟨m,aa.2 (.inl hm),hG⟩))
  .by_cases hq:(Zu { n with Zf:=k } l).n.Zp=Y
   .rcases ih _ h1 hj hq (.inr hA) with q|q|q|⟨m,hm,q⟩
    .exact .inl q
    .exact .inr (.inl q)
    .exact .inr (.inr (.inl q))
    .exact .inr (.inr (.inr ⟨m,aa.2 (.inr hm),q⟩))
   .have hs:(Zu { n with Zf:=k } l).n.Zp.isSome=true:=by
     cases q:(Zu { n with Zf:=k } l).n.Zp with
     | none=>exact absurd q hq
     | some p=>rfl
    rcases stop _ hs with q|q
    .rw[q];exact .inr (.inr (.inl hA))
    .subst q;obtain⟨m,hm,_⟩:=hA;cases hm
def Src(A:YF->Prop)(E F:Nd->Prop)(n:Nd):Prop:=E n\/F n\/∃l∈n.Zf,A l
theorem dP{I:Nd->Prop}{J K A G:YF->Prop}{E F:Nd->Prop}(W:Laws I J K)(H:ME I J A G E F)(hu:n.up=true)(h:I n)(hb:∀l∈n.Zf,J l)(hs:Src A E F n):
  (Src A E F (step n).n\/∃m∈(step n).ls,G m)/\(VI n->E (step n).n\/∃m∈(step n).ls,G m):=by
 cases hp:n.Zp with
 | some p=>
  have e:step n=YL (ZM n) p:=by unfold step;rw[if_pos hu,hp]
  rw[e];refine⟨?_,fun hf=>by rw[hf.1]at hp;cases hp⟩;rcases hs with q|q|⟨l,hl,q⟩
  .exact .inl (.inl (H.Zdo n p h hp q))
  .rcases H.Zwx n p h hp q with q|q
   .exact .inl (.inl q)
   .exact .inr q
  .exact .inl (.inr (.inr ⟨l,by rw[L6];exact hl,q⟩))
 | none=>
  have P9:E n\/∃l∈n.Zf,A l:=by
   rcases hs with q|q|q
   .exact .inl q
   .exact absurd hp (H.ZaW n q)
   .exact .inr q
  have D:=tj W H n.Zf n h hb hp P9;have hd:=(JF W n.Zf n h hb).1;by_cases hq:(Zy n n.Zf).n.Zp=Y
  .rw[Ui hu ⟨hp,hq⟩];have G0:E (Yi (Zy n n.Zf).n).n\/∃m∈(Zy n n.Zf).ls++(Yi (Zy n n.Zf).n).ls,G m:=by
    rcases D with q|q|⟨l,hl,_⟩|⟨m,hm,q⟩
    .exact .inl (H.Zww _ hd hq q)
    .exact absurd hq (H.ZaW _ q)
    .rw[drain_empty _ _ hq]at hl;cases hl
    .exact .inr ⟨m,aa.2 (.inl hm),q⟩
   refine⟨?_,fun _=>G0⟩;rcases G0 with q|q
   .exact .inl (.inl q)
   .exact .inr q
  .have e:step n=Zy n n.Zf:=by
    unfold step;rw[if_pos hu,hp];simp only;rw[if_pos]
    cases q:(Zy n n.Zf).n.Zp with
    | none=>exact absurd q hq
    | some p=>rfl
   rw[e];refine⟨?_,fun hf=>absurd hf.2 hq⟩;rcases D with q|q|q|q
   .exact .inl (.inl q)
   .exact .inl (.inr (.inl q))
   .exact .inl (.inr (.inr q))
   .exact .inr q
def Has{β:Type}(l:List (Int × β))(k:Int):Prop:=Yg l k≠Y
theorem Has.ins{β:Type}{l:List (Int × β)}{j:Int}(h:Has l j)(k:Int)(v:β):Has (Go.V.ins l k v) j:=by
 unfold Has;rw[Xb];split
 .exact fun e=>by cases e
 .exact h
theorem Has.now{β:Type}(l:List (Int × β))(k:Int)(v:β):Has (Go.V.ins l k v) k:=by
 unfold Has;rw[Xb,if_pos rfl];exact fun e=>by cases e
def nH(r:Xw)(s j:Int):Prop:=Has ((Yg r.YZ s).getD []) j
structure XQ(r r':Xw):Prop where
 b:r'.b=r.b
 ZT:∀s x,Yg r.ZT s=U x->Yg r'.ZT s=U x
 Xg:r.Xg=true->r'.Xg=true
 ZF:∀k,Has r.ZF k->Has r'.ZF k
 YZ:∀s j,nH r s j->nH r' s j
theorem XQ.refl(r:Xw):XQ r r:=⟨rfl,fun _ _ h=>h,fun h=>h,fun _ h=>h,fun _ _ h=>h⟩
theorem XQ.trans{a b c:Xw}(h1:XQ a b)(h2:XQ b c):XQ a c:=
 ⟨by rw[h2.b,h1.b],fun s x h=>h2.ZT s x (h1.ZT s x h),fun h=>h2.Xg (h1.Xg h),fun k h=>h2.ZF k (h1.ZF k h),fun s j h=>h2.YZ s j (h1.YZ s j h)⟩
structure VO(r r':Xw):Prop where
 k:XQ r r'
 p:r'.ZT=r.ZT
 g:r'.Xg=r.Xg
theorem VO.refl(r:Xw):VO r r:=⟨XQ.refl r,rfl,rfl⟩
theorem VO.trans{a b c:Xw}(h1:VO a b)(h2:VO b c):VO a c:=⟨h1.k.trans h2.k,by rw[h2.p,h1.p],by rw[h2.g,h1.g]⟩
def UR:Option Xw->Option Xw->Prop
 | none,Y=>True
 | some r,U r'=>VO r r'
 | _,_=>False
theorem UR.refl:∀o,UR o o
 | none=>trivial
 | some r=>VO.refl r
theorem UR.trans:∀{a b c:Option Xw},UR a b->UR b c->UR a c
 | none,Y,Y,_,_=>trivial
 | some _,U _,U _,h1,h2=>VO.trans h1 h2
 | none,U _,_,h,_=>h.elim
 | some _,Y,_,h,_=>h.elim
 | none,Y,U _,_,h=>h.elim
 | some _,U _,Y,_,h=>h.elim
structure VP(n m:Nd):Prop where
 up:m.up=n.up
 me:m.me=n.me
 Zw:∃e,m.Zw=n.Zw++e
 Zh:∀s,Has n.Zh s->Has m.Zh s
 Zr:∀x∈n.Zr,x∈m.Zr\/x∈m.Zw
theorem VP.refl(n:Nd):VP n n:=⟨rfl,rfl,⟨[],uK⟩,fun _ h=>h,fun x h=>.inl h⟩
theorem VP.trans{a b c:Nd}(h1:VP a b)(h2:VP b c):VP a c:=by
 obtain⟨e1,p1⟩:=h1.Zw;obtain⟨e2,p2⟩:=h2.Zw;refine⟨by rw[h2.up,h1.up],by rw[h2.me,h1.me],⟨e1++e2,by rw[p2,p1,aU]⟩,fun s h=>h2.Zh s (h1.Zh s h),fun x hx=>?_⟩;rcases h1.Zr x hx with q|q
 .exact h2.Zr x q
 .exact .inr (by rw[p2];exact aa.2 (.inl q))
theorem VP.same{m:Nd}(h1:m.up=n.up)(h2:m.me=n.me)(h3:m.Zw=n.Zw)(h4:m.Zh=n.Zh)(h5:m.Zr=n.Zr):VP n m:=
 ⟨h1,h2,⟨[],by rw[h3];simp⟩,fun s h=>by rw[h4];exact h,fun x hx=>.inl (by rw[h5];exact hx)⟩
structure Xs(n m:Nd):Prop where
 go:VP n m
 Zm:m.Zm=n.Zm
 YS:m.YS=n.YS
 data:m.data=n.data
 Zp:m.Zp=n.Zp
 VN:UR n.Zg m.Zg
theorem Xs.refl(n:Nd):Xs n n:=⟨VP.refl n,rfl,rfl,rfl,rfl,UR.refl _⟩
theorem Xs.trans{a b c:Nd}(h1:Xs a b)(h2:Xs b c):Xs a c:=
 ⟨h1.go.trans h2.go,by rw[h2.Zm,h1.Zm],by rw[h2.YS,h1.YS],by rw[h2.data,h1.data],by rw[h2.Zp,h1.Zp],h1.VN.trans h2.VN⟩
theorem Ai(n:Nd)(x:Cm):Xs n (JZ n x):=by
 refine⟨⟨rfl,rfl,⟨[x],rfl⟩,fun _ h=>h,fun y hy=>?_⟩,rfl,rfl,rfl,rfl,UR.refl _⟩;by_cases e:y=x
 .exact .inr (aa.2 (.inr (by rw[e];simp)))
 .exact .inl (a0.2 ⟨hy,by simp[e]⟩)
theorem Dd:∀(k:Nat) (n:Nd),Xs n (Ye k n).1/\(Ye k n).1.Zh=n.Zh:=by
 intro k
 induction k with
 | zero=>intro n;exact⟨Xs.refl n,rfl⟩
 | succ k ih=>
  intro n;unfold Ye;split
  .exact⟨Xs.refl n,rfl⟩
  .rename_i x _;obtain⟨h1,h2⟩:=ih (JZ n x);exact⟨(Ai n x).trans h1,h2⟩
theorem Uc(n:Nd)(s:Int)(x:Cm):Xs n (X8 n s x).n/\Has (X8 n s x).n.Zh s/\(X8 n s x).ls=[]:=by
 unfold X8;obtain⟨h1,h2⟩:=Dd ((Jd n s x).Zh.length+1) (Jd n s x);refine⟨Xs.trans (b:=Jd n s x) ⟨⟨rfl,rfl,⟨[],by simp[Jd]⟩,fun j h=>Has.ins h s x,fun y hy=>.inl hy⟩,rfl,rfl,rfl,rfl,UR.refl _⟩ h1,?_,rfl⟩;show Has (Ye ((Jd n s x).Zh.length+1) (Jd n s x)).1.Zh s;rw[h2];exact Has.now _ _ _
theorem OO(n:Nd)(l:YF):Xs n (Xk n l):=by
 unfold Xk;split
 .exact⟨VP.same rfl rfl rfl rfl rfl,rfl,rfl,rfl,rfl,UR.refl _⟩
 .exact Xs.refl n
theorem Ck(n:Nd)(x:Cm):Xs n (add n x)/\(x∈(add n x).Zr\/x∈(add n x).Zw):=by
 unfold add;split
 .rename_i q;exact⟨Xs.refl n,q⟩
 .exact⟨⟨⟨rfl,rfl,⟨[],uK⟩,fun _ h=>h,fun y hy=>.inl (aa.2 (.inl hy))⟩,rfl,rfl,rfl,rfl,UR.refl _⟩,.inl (aa.2 (.inr uK))⟩
theorem kw(hr:n.Zg=U r)(l:YF):Xs n (Zdv n r l):=by
 refine⟨VP.same rfl rfl rfl rfl rfl,rfl,rfl,rfl,rfl,?_⟩;rw[hr];exact⟨⟨rfl,fun _ _ h=>h,fun h=>h,fun k h=>Has.ins h _ _,fun _ _ h=>h⟩,rfl,rfl⟩
theorem Eb(hr:n.Zg=U r)(l:YF):Xs n (TD n r l):=by
 refine⟨VP.same rfl rfl rfl rfl rfl,rfl,rfl,rfl,rfl,?_⟩;rw[hr];refine⟨⟨rfl,fun _ _ h=>h,fun h=>h,fun k h=>h,fun s j h=>?_⟩,rfl,rfl⟩;unfold nH;show Has ((Yg (ins r.YZ l.v.Zt (QY r l)) s).getD []) j;rw[Xb];split
 .rename_i e;show Has (QY r l) j;unfold QY;unfold nH at h;rw[e];exact Has.ins h _ _
 .exact h
theorem OP(n:Nd)(l:YF):Xs n (Ym n l).n/\(Ym n l).ls=[]:=by
 unfold Ym
 cases hr:n.Zg with
 | none=>exact⟨Xs.refl n,rfl⟩
 | some r=>
  simp only;split
  .split
   .exact⟨kw hr l,rfl⟩
   .exact⟨Xs.refl n,rfl⟩
  .split
   .exact⟨Xs.refl n,rfl⟩
   .split
    .obtain⟨h1,_,h3⟩:=Uc (TD n r l) l.v.Zt l.v.cm;exact⟨(Eb hr l).trans h1,h3⟩
    .exact⟨Eb hr l,rfl⟩
theorem dQ(n:Nd)(l:YF):Xs n (Qd n l).n:=by
 unfold Qd;split
 .exact OO n l
 .exact OO n l
def Znr(n:Nd)(l:YF):Nd:={ n with data:=n.data++YR (JQ l.b),Zp:=U (.Vy ⟨l.b,n.Zm.l⟩ l.Jp l.b n.Zm.l) }
def Zns(n:Nd)(l:YF):Nd:={ n with data:=n.data++YR (Uq l.v),Zp:=U (.TC ⟨l.v.b,JA n.Zm.l l.v⟩ l.Jp l.v) }
theorem Xu(n:Nd)(l:YF):(∀m∈(Zu n l).ls,m.ZR≠0/\m.ZR≠2)/\(Xs n (Zu n l).n \/
  (l.ZR=0/\YG n.Zm.p n.Zm.l l.b=0/\n.Zm.p≠l.b/\Jj n.data n.YS l.b=0/\(Zu n l).n=Znr n l) \/
  (l.ZR=2/\Xi n.Zm.p n.Zm.l l.v=0/\l.v ∉ n.Zm.l/\QW n.data n.YS l.v=0/\(Zu n l).n=Zns n l)):=by
 have one:∀(k:Int) (f t:Int) (b:Yn) (v:Vt) (vs:List Vt),k≠0->k≠2->∀m∈[(⟨k,f,t,b,v,vs⟩:YF)],m.ZR≠0/\m.ZR≠2:=fun k f t b v vs h1 h2 m hm=>by
  rw[am.1 hm];exact⟨h1,h2⟩
 have nil:∀m∈([]:List YF),m.ZR≠0/\m.ZR≠2:=fun m hm=>by cases hm
 unfold Zu;split
 .rename_i hk;unfold YA;split
  .exact⟨one _ _ _ _ _ _ Iw Iw,.inl (Xs.refl n)⟩
  .split
   .exact⟨one _ _ _ _ _ _ Iw Iw,.inl (Xs.refl n)⟩
   .split
    .exact⟨nil,.inl (Xs.refl n)⟩
    .rename_i q1 q2 q3;exact⟨nil,.inr (.inl ⟨hk,nT,q2,nT,rfl⟩)⟩
 split
 .obtain⟨h1,h2⟩:=OP n l;exact⟨by rw[h2];exact nil,.inl h1⟩
 split
 .rename_i hk;unfold asked;split
  .exact⟨one _ _ _ _ _ _ Iw Iw,.inl (Xs.refl n)⟩
  .split
   .exact⟨one _ _ _ _ _ _ Iw Iw,.inl (Xs.refl n)⟩
   .split
    .exact⟨nil,.inl (Xs.refl n)⟩
    .rename_i q1 q2 q3;exact⟨nil,.inr (.inr ⟨hk,nT,q2,nT,rfl⟩)⟩
 split
 .exact⟨nil,.inl (Ck n l.v.cm).1⟩
 split
 .refine⟨?_,.inl (dQ n l)⟩;unfold Qd;split
  .exact one _ _ _ _ _ _ Iw Iw
  .exact nil
 split
 .obtain⟨h1,_,h3⟩:=Uc n l.v.Zt l.v.cm;exact⟨by rw[h3];exact nil,.inl h1⟩
 .exact⟨nil,.inl (OO n l)⟩
theorem I3(n:Nd)(r:Xw)(x:Cm):XQ r (J4 n r x):=by
 unfold J4;split
 .rename_i s hs;refine⟨rfl,fun t y h=>?_,fun h=>h,fun _ h=>h,fun _ _ h=>h⟩;show Yg (ins r.ZT (s:Int) x) t=U y;rw[Xb];split
  .rename_i e;have:=(No _ _ _ hs).2.2.1;rw[<-e,this]at h
   cases h
  .exact h
 .exact XQ.refl r
theorem Vd(n:Nd):∀(l:List Cm) (r:Xw),XQ r (Jb n r l):=by
 intro l
 induction l with
 | nil=>intro r;exact XQ.refl r
 | cons x l ih=>intro r;exact (I3 n r x).trans (ih _)
def Blank(o:Option Xw):Prop:=∀r,o=U r->r.Xg=false->∀s,Yg r.ZT s=Y
theorem OQ(n:Nd)(r:Xw)(hb:r.Xg=false->∀s,Yg r.ZT s=Y):XQ r (XJ n r)/\(XJ n r).Xg=true:=by
 have hp:∀(l:List Cm) (r:Xw),r.Xg=true->(Jb n r l).Xg=true:=fun l r h=>(Vd n l r).Xg h;unfold XJ;by_cases q:r.Xg=true
 .rw[if_pos q];exact⟨Vd n _ r,hp _ _ q⟩
 .rw[if_neg q];have q0:r.Xg=false:=by simpa using q
  refine⟨XQ.trans (b:=Wq n r) ⟨rfl,fun s x h=>?_,fun h=>absurd h q,fun _ h=>h,fun _ _ h=>h⟩ (Vd n _ _),hp _ _ rfl⟩;rw[hb q0 s]at h
  cases h
theorem Np(n:Nd)(r:Xw):(XJ n r).YZ=r.YZ/\(XJ n r).ZF=r.ZF:=by
 have hp:∀(l:List Cm) (r:Xw),(Jb n r l).YZ=r.YZ/\(Jb n r l).ZF=r.ZF:=by
  intro l
  induction l with
  | nil=>intro r;exact⟨rfl,rfl⟩
  | cons x l ih=>
   intro r;have e:(J4 n r x).YZ=r.YZ/\(J4 n r x).ZF=r.ZF:=by unfold J4;split<;>exact⟨rfl,rfl⟩
   obtain⟨h1,h2⟩:=ih (J4 n r x);exact⟨by rw[<-e.1];exact h1,by rw[<-e.2];exact h2⟩
 unfold XJ;obtain⟨h1,h2⟩:=hp n.Zr (if r.Xg=true then r else Wq n r);rw[h1,h2];split<;>exact⟨rfl,rfl⟩
structure Ec(n m:Nd):Prop where
 up:m.up=n.up
 me:m.me=n.me
 Zw:m.Zw=n.Zw
 Zh:m.Zh=n.Zh
 Zr:m.Zr=n.Zr
 Zi:m.Zi=n.Zi
 Zm:m.Zm=n.Zm
 YS:m.YS=n.YS
 VN:(n.Zg=Y/\m.Zg=Y)\/(∃r,n.Zg=U r/\ZE r.b n.Zm.p/\m.Zg=Y)\/∃r r',n.Zg=U r/\¬ZE r.b n.Zm.p/\m.Zg=U r'/\XQ r r'/\(r'=r\/r'.Xg=true)/\r'.YZ=r.YZ/\r'.ZF=r.ZF
 Zp:(m.Zp=Y/\m.data=n.data)\/∃r,n.Zg=U r/\ZE n.Zm.p r.b/\Jj n.data n.YS r.b=0/\m.data=n.data++YR (JQ r.b) /\
  m.Zp=U (.Zm (if YG n.Zm.p n.Zm.l r.b=0 then ⟨r.b,n.Zm.l⟩ else JJ) (if YG n.Zm.p n.Zm.l r.b=0 then n.Zm.l else []) true)
theorem U9(n:Nd):(n.Zg=Y/\Zn n=n)\/(∃r,n.Zg=U r/\ZE r.b n.Zm.p/\Zn n = { n with Zg:=Y })\/∃r,n.Zg=U r/\¬ZE r.b n.Zm.p/\Zn n=n:=by
 unfold Zn
 cases hr:n.Zg with
 | none=>exact .inl ⟨rfl,rfl⟩
 | some r=>
  simp only;by_cases q:ZE r.b n.Zm.p
  .rw[if_pos q];exact .inr (.inl ⟨r,rfl,q,rfl⟩)
  .rw[if_neg q];exact .inr (.inr ⟨r,rfl,q,rfl⟩)
theorem Ec.Yt{m:Nd}(h:Ec n m):Ec n (JD m):=⟨h.up,h.me,h.Zw,h.Zh,h.Zr,h.Zi,h.Zm,h.YS,h.VN,h.Zp⟩
def Zex(n:Nd)(l:YF):Prop:=l.ZR=0\/l.ZR=2->∃r,n.Zg=U r/\¬ZE r.b n.Zm.p/\¬ZE n.Zm.p r.b/\(l.ZR=0->l.b=r.b)/\(l.ZR=2->l.v.b=r.b)/\l.Jp=n.me
theorem kA(hp:n.Zp=Y)(hr:n.Zg=U r)(hq:¬ZE r.b n.Zm.p)(hb:r.Xg=false->∀s,Yg r.ZT s=Y):Ec n (Js n r).n/\∀l∈(Js n r).ls,Zex n l:=by
 have same:∀m:Nd,m.up=n.up->m.me=n.me->m.Zw=n.Zw->m.Zh=n.Zh->m.Zr=n.Zr->m.Zi=n.Zi->m.Zm=n.Zm->m.YS=n.YS->(∃r',m.Zg=U r'/\XQ r r'/\(r'=r\/r'.Xg=true)/\r'.YZ=r.YZ/\r'.ZF=r.ZF)->((m.Zp=Y/\m.data=n.data)\/∃r,n.Zg=U r/\ZE n.Zm.p r.b/\Jj n.data n.YS r.b=0/\m.data=n.data++YR (JQ r.b) /\
  m.Zp=U (.Zm (if YG n.Zm.p n.Zm.l r.b=0 then ⟨r.b,n.Zm.l⟩ else JJ) (if YG n.Zm.p n.Zm.l r.b=0 then n.Zm.l else []) true))->Ec n m:=fun m h1 h2 h3 h4 h5 h6 h7 h8 ⟨r',h9,h10⟩ h11=>
  ⟨h1,h2,h3,h4,h5,h6,h7,h8,.inr (.inr ⟨r,r',hr,hq,h9,h10⟩),h11⟩
 unfold Js;by_cases c1:ZE n.Zm.p r.b
 .rw[if_pos c1];by_cases c2:Jj n.data n.YS r.b=0
  .rw[if_neg (by simp[c2])];exact⟨same _ rfl rfl rfl rfl rfl rfl rfl rfl ⟨r,hr,XQ.refl r,.inl rfl,rfl,rfl⟩ (.inr ⟨r,hr,c1,c2,rfl,rfl⟩),fun l hl=>by cases hl⟩
  .rw[if_pos c2];exact⟨same _ rfl rfl rfl rfl rfl rfl rfl rfl ⟨r,hr,XQ.refl r,.inl rfl,rfl,rfl⟩ (.inl ⟨hp,rfl⟩),fun l hl=>by cases hl⟩
 .rw[if_neg c1];by_cases c3:¬5<2*r.ZF.length
  .rw[if_pos c3];refine⟨same _ rfl rfl rfl rfl rfl rfl rfl rfl ⟨r,hr,XQ.refl r,.inl rfl,rfl,rfl⟩ (.inl ⟨hp,rfl⟩),fun l hl=>?_⟩;unfold SP at hl;obtain⟨m,_,hm⟩:=a3.1 hl;split at hm
   .rw[am.1 hm];exact fun _=>⟨r,hr,hq,c1,fun _=>rfl,(fun h=>by cases h),rfl⟩
   .cases hm
  .rw[if_neg c3];obtain⟨h1,Zwy⟩:=OQ n r hb;refine⟨same _ rfl rfl rfl rfl rfl rfl rfl rfl ⟨_,rfl,h1,.inr Zwy,(Np n r).1,(Np n r).2⟩ (.inl ⟨hp,rfl⟩),fun l hl=>?_⟩;unfold Wr at hl;obtain⟨s,_,hs⟩:=a3.1 hl;unfold WU at hs;split at hs
   .split at hs
    .obtain⟨m,_,hm⟩:=a3.1 hs;unfold Pe at hm;split at hm
     .rw[am.1 hm];exact fun _=>⟨r,hr,hq,c1,(fun h=>by cases h),fun _=>h1.b,rfl⟩
     .cases hm
    .cases hs
   .cases hs
theorem dR(hp:n.Zp=Y)(hb:Blank n.Zg):Ec n (Z2 (Zn n)).n/\∀l∈(Z2 (Zn n)).ls,Zex n l:=by
 have fwd:∀n:Nd,∀l∈U3 n,Zex n l:=fun n l hl=>by
  unfold U3 at hl;obtain⟨x,_,rfl⟩:=ao.1 hl;exact fun h=>by rcases h with h|h<;>cases h
 rcases U9 n with⟨hr,e⟩|⟨r,hr,hq,e⟩|⟨r,hr,hq,e⟩
 .rw[e];unfold Z2;rw[hr];simp only;have D:Ec n n:=⟨rfl,rfl,rfl,rfl,rfl,rfl,rfl,rfl,.inl ⟨hr,hr⟩,.inl ⟨hp,rfl⟩⟩
  split
  .exact⟨D,fwd n⟩
  .exact⟨D,fun l hl=>by cases hl⟩
 .rw[e];unfold Z2;simp only;have D:Ec n { n with Zg:=Y }:=⟨rfl,rfl,rfl,rfl,rfl,rfl,rfl,rfl,.inr (.inl ⟨r,hr,hq,rfl⟩),.inl ⟨hp,rfl⟩⟩
  split
  .refine⟨D,fun l hl h=>?_⟩;unfold U3 at hl;obtain⟨x,_,rfl⟩:=ao.1 hl;rcases h with h|h<;>cases h
  .exact⟨D,fun l hl=>by cases hl⟩
 .rw[e];unfold Z2;rw[hr];simp only;exact kA hp hr hq (hb r hr)
theorem Yr(hp:n.Zp=Y)(hb:Blank n.Zg):Ec n (Yi n).n/\∀l∈(Yi n).ls,Zex n l:=by
 obtain⟨D,h⟩:=dR hp hb;unfold Yi;split
 .exact⟨D,h⟩
 .refine⟨D.Yt,fun l hl=>?_⟩;rcases aa.1 hl with hl|hl
  .exact h l hl
  .unfold QZ at hl;split at hl
   .rw[am.1 hl];exact fun h=>by rcases h with h|h<;>cases h
   .cases hl
def VK(n:Nd):Prop:=∀r,n.Zg=U r->∀s,5<2*((Yg r.YZ s).getD []).length->Has n.Zh s
theorem dS:∀(k:Nat) (n:Nd),Yg (Ye k n).1.Zh ((Ye k n).1.Zw.length:Int)=Y\/((Ye k n).1.Zw.length=n.Zw.length+k/\∀j,j<k->(Yg n.Zh ((n.Zw.length:Int)+j)).isSome=true):=by
 intro k
 induction k with
 | zero=>intro n;exact .inr ⟨rfl,fun j hj=>by omega⟩
 | succ k ih=>
  intro n;unfold Ye
  cases h:Yg n.Zh (n.Zw.length:Int) with
  | none=>exact .inl h
  | some x=>
   simp only;rcases ih (JZ n x) with q|⟨q1,q2⟩
   .exact .inl q
   .have e:(JZ n x).Zw.length=n.Zw.length+1:=by unfold JZ;simp
    rw[e]at q1 q2;refine .inr ⟨nT,fun j hj=>?_⟩
    cases j with
    | zero=>simp[h]
    | succ j=>
     have:=q2 j nT;rw[show (n.Zw.length:Int)+((j+1:Nat):Int)=((n.Zw.length+1:Nat):Int)+(j:Int) by omega];exact this
theorem Cl(n:Nd)(s:Int)(x:Cm):Yg (X8 n s x).n.Zh ((X8 n s x).n.Zw.length:Int)=Y:=by
 unfold X8;rcases dS ((Jd n s x).Zh.length+1) (Jd n s x) with q|⟨_,q⟩
 .exact q
 .have:=FB (Jd n s x).Zh (Jd n s x).Zw.length ((Jd n s x).Zh.length+1) q;omega
theorem ZaX(h:VK n)(s:Int)(x:Cm):VK (X8 n s x).n:=by
 have k:=(Uc n s x).1;have hr:(X8 n s x).n.Zg=n.Zg:=by
  have:∀(k:Nat) (n:Nd),(Ye k n).1.Zg=n.Zg:=by
   intro k
   induction k with
   | zero=>intro n;rfl
   | succ k ih=>
    intro n;unfold Ye;split
    .rfl
    .exact ih _
  exact this _ _
 intro r e t ht;rw[hr]at e;exact k.go.Zh t (h r e t ht)
theorem VK.same{m:Nd}(h:VK n)(h1:m.Zg=n.Zg)(h2:m.Zh=n.Zh):VK m:=fun r e t ht=>by
 rw[h1]at e;rw[h2];exact h r e t ht
theorem tp(h:VK n)(hg:Yg n.Zh (n.Zw.length:Int)=Y)(l:YF):VK (Zu n l).n/\Yg (Zu n l).n.Zh ((Zu n l).n.Zw.length:Int)=Y:=by
 have hn:VK (Xk n l)/\Yg (Xk n l).Zh ((Xk n l).Zw.length:Int)=Y:=by
  unfold Xk;split
  .exact⟨h.same rfl rfl,hg⟩
  .exact⟨h,hg⟩
 unfold Zu;split
 .unfold YA
  repeat' split
  all_goals exact⟨h.same rfl rfl,hg⟩
 split
 .unfold Ym
  cases hr:n.Zg with
  | none=>exact⟨h,hg⟩
  | some r=>
   simp only;split
   .split
    .refine⟨fun r' e t ht=>?_,hg⟩;obtain rfl:=Option.some.inj e;exact h r hr t ht
    .exact⟨h,hg⟩
   .split
    .exact⟨h,hg⟩
    .have hV:∀r',(TD n r l).Zg=U r'->∀t,t≠l.v.Zt->5<2*((Yg r'.YZ t).getD []).length->Has n.Zh t:=fun r' e t ht hl=>by
      obtain rfl:=Option.some.inj e;have hl:5<2*((Yg (ins r.YZ l.v.Zt (QY r l)) t).getD []).length:=hl;rw[Xb,if_neg (fun q=>ht q.symm)]at hl;exact h r hr t hl
     have hS:∀r',(TD n r l).Zg=U r'->(Yg r'.YZ l.v.Zt).getD []=QY r l:=fun r' e=>by
      obtain rfl:=Option.some.inj e;show (Yg (ins r.YZ l.v.Zt (QY r l)) l.v.Zt).getD []=_;rw[Xb,if_pos rfl];rfl
     split
     .refine⟨?_,Cl _ _ _⟩;have hre:(X8 (TD n r l) l.v.Zt l.v.cm).n.Zg=(TD n r l).Zg:=by
       have:∀(k:Nat) (n:Nd),(Ye k n).1.Zg=n.Zg:=by
        intro k
        induction k with
        | zero=>intro n;rfl
        | succ k ih=>
         intro n;unfold Ye;split
         .rfl
         .exact ih _
       exact this _ _
      obtain⟨k1,k2,_⟩:=Uc (TD n r l) l.v.Zt l.v.cm;intro r' e t ht;rw[hre]at e;by_cases q:t=l.v.Zt
      .rw[q];exact k2
      .exact k1.go.Zh t (hV r' e t q ht)
     .rename_i q5;refine⟨fun r' e t ht=>?_,hg⟩;by_cases q:t=l.v.Zt
      .rw[q,hS r' e]at ht;exact absurd ht q5
      .exact hV r' e t q ht
 split
 .unfold asked
  repeat' split
  all_goals exact⟨h.same rfl rfl,hg⟩
 split
 .unfold add;split
  .exact⟨h,hg⟩
  .exact⟨h.same rfl rfl,hg⟩
 split
 .unfold Qd;split
  .exact hn
  .exact hn
 split
 .exact⟨ZaX h _ _,Cl _ _ _⟩
 .exact hn
structure PN(C:List Cm)(b:Yn)(L X:Nat)(n:Nd):Prop where
 ni:Ua C X n
 up:n.up=true
 Zm:¬ZE b n.Zm.p
 YZ:∀v∈n.Zm.l,¬ZE n.Zm.p v.b
 AC:∀p,n.Zp=U p->¬ZE b (WY p).p/\¬ZE (WY p).p n.Zm.p/\∀v∈(WY p).l,¬ZE (WY p).p v.b
 tape:0<=n.YS/\n.YS<=(Q n.data)
 VN:X≠L->∀r,n.Zg=U r->ZE r.b b
 Z1:X=L->∃r,n.Zg=U r/\r.b=b
 Yl:Blank n.Zg
 may:∀r,n.Zg=U r->ZD r.b
 vk:VK n
 Aj:Yg n.Zh (n.Zw.length:Int)=Y
structure PJ(C:List Cm)(b:Yn)(l:YF):Prop where
 li:Q8 C l
 Vy:l.ZR=0->¬ZE b l.b
 ask:l.ZR=2->¬ZE b l.v.b
theorem PN.le{b:Yn}{L X:Nat}(h:PN C b L X n)(hr:n.Zg=U r):¬ZE b r.b:=by
 by_cases e:X=L
 .obtain⟨r',h1,h2⟩:=h.Z1 e;rw[hr]at h1;rw[Option.some.inj h1,h2];exact JW b
 .exact L0 (h.VN e r hr)
theorem Xs.back{m:Nd}(k:Xs n m){r':Xw}(hr:m.Zg=U r'):∃r,n.Zg=U r/\VO r r':=by
 have q:=k.VN;rw[hr]at q
 cases e:n.Zg with
 | none=>rw[e]at q;exact q.elim
 | some r=>rw[e]at q;exact⟨r,rfl,q⟩
theorem Xs.on{m:Nd}(k:Xs n m)(hr:n.Zg=U r):∃r',m.Zg=U r'/\VO r r':=by
 have q:=k.VN;rw[hr]at q
 cases e:m.Zg with
 | none=>rw[e]at q;exact q.elim
 | some r'=>rw[e]at q;exact⟨r',rfl,q⟩
theorem PN.pr0{b:Yn}{L X:Nat}(h:PN C b L X n){c:Yn}(hc:ZD c)(hle:¬ZE c n.Zm.p):YG n.Zm.p n.Zm.l c=0:=by
 unfold YG;rw[if_neg (by rw[KV h.ni.Zm h.YZ];simp),if_neg (fun q=>q hc),if_neg hle]
theorem Xs.pn{b:Yn}{L X:Nat}{m:Nd}(h:PN C b L X n)(hm:Ua C X m)(k:Xs n m)(hv:VK m)(hg:Yg m.Zh (m.Zw.length:Int)=Y):PN C b L X m:=by
 refine⟨hm,by rw[k.go.up];exact h.up,by rw[k.Zm];exact h.Zm,by rw[k.Zm];exact h.YZ,fun p hp=>by rw[k.Zm];exact h.AC p (by rw[<-k.Zp];exact hp),by rw[k.YS,k.data];exact h.tape,fun hx r' hr=>?_,fun hx=>?_,fun r' hr hb s=>?_,fun r' hr=>?_,hv,hg⟩
 .obtain⟨r,h1,h2⟩:=k.back hr;rw[h2.k.b];exact h.VN hx r h1
 .obtain⟨r,h1,h2⟩:=h.Z1 hx;obtain⟨r',h3,h4⟩:=k.on h1;exact⟨r',h3,by rw[h4.k.b,h2]⟩
 .obtain⟨r,h1,h2⟩:=k.back hr;rw[h2.p];exact h.Yl r h1 (by rw[<-h2.g];exact hb) s
 .obtain⟨r,h1,h2⟩:=k.back hr;rw[h2.k.b];exact h.may r h1
section
variable {C:List Cm} {b:Yn} {L X:Nat}
theorem JH(hX:X<5)(hC:(Q C)<=100000)(hb:ZD b):Laws (PN C b L X) (PJ C b) (PJ C b):=by
 refine⟨fun n k h=>⟨h.ni.Zf k,h.up,h.Zm,h.YZ,h.AC,h.tape,h.VN,h.Z1,h.Yl,h.may,h.vk.same rfl rfl,h.Aj⟩,fun n l h hp hl=>?_,fun n h hp=>?_,fun n p h hp=>?_⟩
 .have O:=LW hX h.ni hl.li;obtain⟨hk,hc⟩:=Xu n l;obtain⟨hv,Ay⟩:=tp h.vk h.Aj l;refine⟨?_,fun m hm=>⟨O.ls m hm,fun e=>absurd e (hk m hm).1,fun e=>absurd e (hk m hm).2⟩⟩;rcases hc with k|⟨c1,c2,c3,c4,e⟩|⟨c1,c2,c3,c4,e⟩
  .exact k.pn h O.nd hv Ay
  .have hN:=O.nd;rw[e]at hN hv Ay ⊢;refine⟨hN,h.up,h.Zm,h.YZ,fun p hq=>?_,?_,h.VN,h.Z1,h.Yl,h.may,hv,Ay⟩
   .obtain rfl:Kf.Vy ⟨l.b,n.Zm.l⟩ l.Jp l.b n.Zm.l=p:=Option.some.inj hq;exact⟨hl.Vy c1,L1 c2,fun v hv=>X2 (h.YZ v hv) (L1 c2)⟩
   .have:=h.tape;show 0<=n.YS/\n.YS<=((n.data++YR (JQ l.b)).length:Nat)
    rw[ae];omega
  .have hN:=O.nd;rw[e]at hN hv Ay ⊢;refine⟨hN,h.up,h.Zm,h.YZ,fun p hq=>?_,?_,h.VN,h.Z1,h.Yl,h.may,hv,Ay⟩
   .obtain rfl:Kf.TC ⟨l.v.b,JA n.Zm.l l.v⟩ l.Jp l.v=p:=Option.some.inj hq;refine⟨hl.ask c1,L4 c2,fun v hv=>?_⟩;have hv:v∈JA n.Zm.l l.v:=hv;show ¬ZE l.v.b v.b;unfold JA at hv;rcases aa.1 hv with hv|hv
    .exact X2 (h.YZ v (a0.1 hv).1) (L4 c2)
    .rcases a7.1 hv with rfl|hv
     .exact JW _
     .exact X2 (h.YZ v (a0.1 hv).1) (L4 c2)
   .have:=h.tape;show 0<=n.YS/\n.YS<=((n.data++YR (Uq l.v)).length:Nat)
    rw[ae];omega
 .obtain⟨d1,d2,_⟩:=jP hX hC h.ni;obtain⟨D,hA⟩:=Yr hp h.Yl;refine⟨⟨d1,by rw[D.up];exact h.up,by rw[D.Zm];exact h.Zm,by rw[D.Zm];exact h.YZ,fun p hq=>?_,?_,fun hx r' hr=>?_,fun hx=>?_,fun r' hr DQ s=>?_,fun r' hr=>?_,fun r' hr t ht=>?_,by rw[D.Zh,D.Zw];exact h.Aj⟩,fun l hl=>⟨d2 l hl,fun e=>?_,fun e=>?_⟩⟩
  .rcases D.Zp with⟨e,_⟩|⟨r,hr,c1,c2,_,e⟩
   .rw[e]at hq;cases hq
   .rw[e]at hq;obtain rfl:=Option.some.inj hq;rw[D.Zm];rw[if_pos (h.pr0 (h.may r hr) (L0 c1))];exact⟨h.le hr,L0 c1,fun v hv=>X2 (h.YZ v hv) (L0 c1)⟩
  .rw[D.YS];have:=h.tape;rcases D.Zp with⟨_,e⟩|⟨r,_,_,_,e,_⟩
   .rw[e];exact this
   .rw[e,ae];omega
  .rcases D.VN with⟨_,e⟩|⟨_,_,_,e⟩|⟨r,r2,h1,_,e,k,_,_,_⟩
   .rw[e]at hr;cases hr
   .rw[e]at hr;cases hr
   .rw[e]at hr;obtain rfl:=Option.some.inj hr;rw[k.b];exact h.VN hx r h1
  .obtain⟨r,h1,h2⟩:=h.Z1 hx;rcases D.VN with⟨e,_⟩|⟨r2,e,q,_⟩|⟨r2,r3,e,q,e3,k,_,_,_⟩
   .rw[e]at h1;cases h1
   .rw[e]at h1;obtain rfl:=Option.some.inj h1;rw[h2]at q;exact absurd q h.Zm
   .rw[e]at h1;obtain rfl:=Option.some.inj h1;exact⟨r3,e3,by rw[k.b,h2]⟩
  .rcases D.VN with⟨_,e⟩|⟨_,_,_,e⟩|⟨r,r2,h1,_,e,_,k,_,_⟩
   .rw[e]at hr;cases hr
   .rw[e]at hr;cases hr
   .rw[e]at hr;obtain rfl:=Option.some.inj hr;rcases k with rfl|k
    .exact h.Yl _ h1 DQ s
    .rw[k]at DQ;cases DQ
  .rcases D.VN with⟨_,e⟩|⟨_,_,_,e⟩|⟨r,r2,h1,_,e,k,_,_,_⟩
   .rw[e]at hr;cases hr
   .rw[e]at hr;cases hr
   .rw[e]at hr;obtain rfl:=Option.some.inj hr;rw[k.b];exact h.may r h1
  .rcases D.VN with⟨_,e⟩|⟨_,_,_,e⟩|⟨r,r2,h1,_,e,_,_,k,_⟩
   .rw[e]at hr;cases hr
   .rw[e]at hr;cases hr
   .rw[e]at hr;obtain rfl:=Option.some.inj hr;rw[k]at ht;rw[D.Zh];exact h.vk r h1 t ht
  .obtain⟨r,h1,_,_,h2,_⟩:=hA l hl (.inl e);rw[h2 e];exact h.le h1
  .obtain⟨r,h1,_,_,_,h2,_⟩:=hA l hl (.inr e);rw[h2 e];exact h.le h1
 .obtain⟨f1,f2,f3,f4,_⟩:=FO hX (FN h.ni) (h.ni.Zp p hp);have PZ:=h.AC p hp;refine⟨?_,fun m hm=>⟨f2 m hm,fun e=>?_,fun e=>?_⟩⟩
  .have ht:0<=(ZM n).YS/\(ZM n).YS<=(ZM n).data.length:=by
    show 0<=(if YX n.data n.YS then ((Q n.data):Int) else 0)/\(if YX n.data n.YS then ((Q n.data):Int) else 0)<=((if YX n.data n.YS then n.data else []).length:Nat)
    split<;>simp
   cases p with
   | Vy a to b' vs=>exact⟨f1,h.up,PZ.1,PZ.2.2,(fun q hq=>by cases hq),ht,h.VN,h.Z1,h.Yl,h.may,h.vk.same rfl rfl,h.Aj⟩
   | TC a to v=>exact⟨f1,h.up,PZ.1,PZ.2.2,(fun q hq=>by cases hq),ht,h.VN,h.Z1,h.Yl,h.may,h.vk.same rfl rfl,h.Aj⟩
   | Zm a vs cur=>
    have hre:∀r',(YL (ZM n) (.Zm a vs cur)).n.Zg=U r'->∃r,n.Zg=U r/\VO r r'/\r'.YZ=r.YZ:=fun r' hr=>by
     have hr:(if cur=true then n.Zg.map (fun r=>{ r with ZF:=ins r.ZF n.me vs }) else n.Zg)=U r':=hr;split at hr
     .cases e:n.Zg with
      | none=>rw[e]at hr;cases hr
      | some r=>
       rw[e]at hr;obtain rfl:=Option.some.inj hr;exact⟨r,rfl,⟨⟨rfl,fun _ _ h=>h,fun h=>h,fun k h=>Has.ins h _ _,fun _ _ h=>h⟩,rfl,rfl⟩,rfl⟩
     .exact⟨r',hr,VO.refl r',rfl⟩
    refine⟨f1,h.up,PZ.1,PZ.2.2,(fun q hq=>by cases hq),ht,fun hx r' hr=>?_,fun hx=>?_,fun r' hr DQ s=>?_,fun r' hr=>?_,fun r' hr t ht=>?_,h.Aj⟩
    .obtain⟨r,h1,h2,_⟩:=hre r' hr;rw[h2.k.b];exact h.VN hx r h1
    .obtain⟨r,h1,h2⟩:=h.Z1 hx;show ∃r,(if cur=true then n.Zg.map (fun r=>{ r with ZF:=ins r.ZF n.me vs }) else n.Zg)=U r/\r.b=b;rw[h1];split
     .exact⟨_,rfl,h2⟩
     .exact⟨r,rfl,h2⟩
    .obtain⟨r,h1,h2,_⟩:=hre r' hr;rw[h2.p];exact h.Yl r h1 (by rw[<-h2.g];exact DQ) s
    .obtain⟨r,h1,h2,_⟩:=hre r' hr;rw[h2.k.b];exact h.may r h1
    .obtain⟨r,h1,_,h3⟩:=hre r' hr;rw[h3]at ht;exact h.vk r h1 t ht
  .cases p with
   | Vy a to b' vs=>rw[am.1 hm]at e;cases e
   | TC a to v=>rw[am.1 hm]at e;cases e
   | Zm a vs cur=>cases hm
  .cases p with
   | Vy a to b' vs=>rw[am.1 hm]at e;cases e
   | TC a to v=>rw[am.1 hm]at e;cases e
   | Zm a vs cur=>cases hm

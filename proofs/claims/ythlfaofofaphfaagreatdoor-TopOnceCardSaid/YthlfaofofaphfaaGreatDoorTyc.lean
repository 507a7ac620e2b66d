/- Part Tyc. -/
import Derived.Test.YthlfaofofaphfaaGreatDoorTxb
import Derived.Test.YthlfaofofaphfaaGreatDoorMop
open Go.Value renaming slice→ae,int→al
open Go.IntKind renaming i64→ab
open Go.Obj renaming cells→a5
open Go.Proofs.Tryz renaming prog→a9,underlying27→bp
open List renaming length→U,mem_append→Y,length_append→ag,mem_map→am,append_assoc→aN,mem_singleton→aO,getElem?_eq_getElem→a0,length_map→a1,mem_filter→a2,foldl_cons→a3,map_append→a4,mem_cons→a7,mem_range→a8,nil_append→bb,append_nil→bc,getD_eq_getElem?_getD→bd,foldl_append→be,getElem?_map→bf,mem_flatten→bg,mem_flatMap→bh,length_singleton→bk,mem_of_mem_take→bl,getElem?_range→bn,range→bo,getElem_mem→br,cons_append→bw,filter_cons→bx,range'→bz,range_succ→bA
open Nat renaming le_refl→ba
open Int renaming toNat_natCast→aw
open Option renaming some→Z,none→aa
open Classical renaming byContradiction→a6
open Go renaming Value→aD
namespace Go.Proofs.YthlfaofofaphfaaGreatDoor
open Go Go.V
set_option linter.unusedSimpArgs false
set_option linter.unusedVariables false
variable{C:List Cm}{l:List Raw}{r:XE}
theorem oI{β:Type}:∀{l:List (Int × β)} {k:Int},k∈l.map (·.1)->∃v,Yh l k=Z v:=by
 intro l k h
 cases e:Yh l k with
 | some v=>exact⟨v,rfl⟩
 | none=>
  obtain⟨x,hx,rfl⟩:=am.1 h;exact (ym e x hx rfl).elim
theorem oJ{β:Type}{l:List (Int × β)}{k:Int}{v:β}(h:Yh l k=Z v):k∈l.map (·.1):=am.2 ⟨(k,v),RZ h,rfl⟩
theorem S4.maj{β:Type}{l:List (Int × β)}(h:S4 5 l)(hm:5<2*(U l)):Maj (l.map fun x=>x.1.toNat):=by
 refine⟨?_,fun i hi=>?_,by rw[a1];omega⟩
 .have:(l.map fun x=>x.1.toNat)=(l.map (·.1)).map Int.toNat:=by rw[List.map_map];rfl
  rw[this];refine List.pairwise_map.2 ?_;have h2:=h.2;have h1:=h.1;rw[List.nodup_iff_pairwise_ne]at h1;refine List.Pairwise.imp_of_mem ?_ h1;intro a b ha hb Y7 he;have:=h2 a ha;have:=h2 b hb;omega
 .obtain⟨x,hx,rfl⟩:=am.1 hi;have:=h.2 x.1 (am.2 ⟨x,hx,rfl⟩);omega
theorem S4.back{β:Type}{l:List (Int × β)}(h:S4 5 l){i:Nat}(hi:i∈l.map fun x=>x.1.toNat):∃v,Yh l (i:Int)=Z v:=by
 obtain⟨x,hx,rfl⟩:=am.1 hi;have:=h.2 x.1 (am.2 ⟨x,hx,rfl⟩);have e:((x.1.toNat:Nat):Int)=x.1:=pA;rw[e];exact oI (am.2 ⟨x,hx,rfl⟩)
structure AR(g:Gh)(i:Nat)(a:UP):Prop where
 has:∀v∈a.l,g.V i v.b v.Zu v.cm
 all:∀b s x,g.V i b s x->∃v∈a.l,v.Zu=s/\¬ZM v.b b
theorem AR.pf{S:Cm->Prop}{g:Gh}{M:Nat->YA}{i:Nat}{a:UP}(G:GI S g M)(h:AR g i a)(hi:i<5)(hm:M i=a.p):PF g M i a.p a.l:=
 ⟨hi,by rw[hm];exact QE _,fun v hv=>⟨h.has v hv,by rw[<-hm];exact G.Z5 _ _ _ _ (h.has v hv)⟩,fun b' s x _ hv=>h.all b' s x hv⟩
structure RR(g:Gh)(M:Nat->YA)(i:Nat)(n:Nd)(r:XE):Prop where
 ZS:r.b.n=i
 may:ZF r.b
 ZI:∀j vs,Yh r.ZI j=Z vs->PF g M j.toNat r.b vs
 pn:r.XU=false->∀s x,¬g.P r.b s x
 pr:∀s x,g.P r.b s x->Yh r.ZY s=Z x
 safe:∀s x,Yh r.ZY s=Z x->g.P r.b s x
 free:r.XU=true->∀s:Int,(n.ZA.length:Int)<=s->Yh r.ZY s=aa->Yh n.Zi s=aa->Ho g M r.b s
 Xb:∀s K j,Yh r.Xb s=Z K->Yh K j=Z ()->∃x,g.V j.toNat r.b s x
def PR(g:Gh)(n:Nd):Kv->Prop
 | .VN a to b vs=>a=⟨b,n.Zq.l⟩/\vs=n.Zq.l/\YI n.Zq.p n.Zq.l b=0
 | .TX a to v=>a=⟨v.b,JH n.Zq.l v⟩/\Xn n.Zq.p n.Zq.l v=0/\g.P v.b v.Zu v.cm
 | .Zq a vs cur=>∃b,a=⟨b,n.Zq.l⟩/\vs=n.Zq.l/\YI n.Zq.p n.Zq.l b=0/\(cur=true->∃r,n.Zh=Z r/\r.b=b)
structure LR(S:Cm->Prop)(g:Gh)(M:Nat->YA)(l:YH):Prop where
 VN:l.Z3=1->PF g M l.Jw.toNat l.b l.vs
 ask:l.Z3=2->g.P l.v.b l.v.Zu l.v.cm
 TX:l.Z3=3->g.V l.Jw.toNat l.v.b l.v.Zu l.v.cm
 fwd:l.Z3=4->S l.v.cm
 cho:l.Z3=6->Jr g l.v.Zu l.v.cm
theorem LR.plain{S:Cm->Prop}{g:Gh}{M:Nat->YA}{l:YH}(h:l.Z3=0\/l.Z3=5\/l.Z3=7):LR S g M l:=
 ⟨fun e=>by omega,fun e=>by omega,fun e=>by omega,fun e=>by omega,fun e=>by omega⟩
structure NR(S:Cm->Prop)(g:Gh)(M:Nat->YA)(i:Nat)(n:Nd):Prop where
 acc:AR g i (Wp n)
 m:M i=(Wp n).p
 tape:TR n
 Zs:∀p,n.Zs=Z p->PR g n p
 Zi:∀s x,Yh n.Zi s=Z x->Jr g s x
 ZA:∀(k:Nat) x,n.ZA[k]? = Z x->Jr g (k:Int) x
 eh:∀x∈n.Zx,S x
 Zh:∀r,n.Zh=Z r->RR g M i n r
theorem JL{n:Nd}(h:n.up=true):Wp n=n.Zq:=by unfold Wp;rw[if_pos h]
section
variable {i j:Nat} {g g':Gh} {M M':Nat->YA} {S:Cm->Prop}
theorem LR.ext(E:Ext i g M g' M'){l:YH}(h:LR S g M l):LR S g' M' l:=
 ⟨fun e=>(h.VN e).ext E,fun e=>E.p _ _ _ (h.ask e),fun e=>E.v _ _ _ _ (h.TX e),h.fwd,fun e=>(h.cho e).ext E⟩
theorem NR.ext(E:Ext i g M g' M'){n:Nd}(hj:j≠i)(h:NR S g M j n):NR S g' M' j n:=by
 have ho:=E.oth j hj;refine⟨⟨fun v hv=>E.v _ _ _ _ (h.acc.has v hv),fun b s x hv=>h.acc.all b s x (ho.2 _ _ _ hv)⟩,by rw[ho.1];exact h.m,h.tape,fun p hp=>?_,fun s x e=>(h.Zi s x e).ext E,fun k x e=>(h.ZA k x e).ext E,h.eh,fun r hr=>?_⟩
 .have:=h.Zs p hp
  cases p with
  | VN a to b vs=>exact this
  | TX a to v=>exact⟨this.1,this.2.1,E.p _ _ _ this.2.2⟩
  | Zq a vs cur=>exact this
 .have R:=h.Zh r hr;have hP:∀s x,g'.P r.b s x->g.P r.b s x:=fun s x e=>by
   rcases E.Zq _ _ _ e with e|e
   .exact e
   .rw[R.ZS]at e;omega
  exact⟨R.ZS,R.may,fun k vs e=>(R.ZI k vs e).ext E,fun e s x q=>R.pn e s x (hP s x q),fun s x q=>R.pr s x (hP s x q),fun s x q=>E.p _ _ _ (R.safe s x q),fun e s h1 h2 h3=>(R.free e s h1 h2 h3).ext E,fun s K k h1 h2=>by
   obtain⟨x,hx⟩:=R.Xb s K k h1 h2;exact⟨x,E.v _ _ _ _ hx⟩⟩
end
structure HR(S:Cm->Prop)(g:Gh)(M:Nat->YA)(i:Nat)(o:Out):Prop where
 n:NR S g M i o.n
 up:o.n.up=true
 ls:∀l∈o.ls,LR S g M l
section
variable {S:Cm->Prop} {g:Gh} {M:Nat->YA} {i:Nat} {n:Nd}
theorem HR.same(N:NR S g M i n)(hu:n.up=true):HR S g M i ⟨n,[],[]⟩:=⟨N,hu,fun l hl=>by cases hl⟩
theorem HR.one(N:NR S g M i n)(hu:n.up=true){l:YH}(hl:LR S g M l):HR S g M i ⟨n,[l],[]⟩:=⟨N,hu,fun x hx=>by
 have:x=l:=by simpa using hx
 rw[this];exact hl⟩
theorem Kj{p b:YA}{l:List Vt}(h:YI p l b=0):¬ZM b p:=by
 unfold YI at h;split at h
 .omega
 .split at h
  .omega
  .split at h
   .omega
   .assumption
theorem Kk{p:YA}{l:List Vt}{v:Vt}(h:Xn p l v=0):¬ZM v.b p:=by
 unfold Xn at h;split at h
 .omega
 .split at h
  .omega
  .split at h
   .omega
   .assumption
theorem NR.wait(N:NR S g M i n)(hu:n.up=true)(hp:n.Zs=aa){p:Kv}{f:List Nat}(hb:JK n.Zq f=Z (WV p))(hl:(n.data++YV f).length<=100000)(hr:PR g n p):NR S g M i { n with data:=n.data++YV f,Zs:=Z p }:=by
 obtain⟨h1,h2⟩:=N.tape.idle hu hp;have eA:Wp { n with data:=n.data++YV f,Zs:=Z p } = Wp n:=by rw[JL hu,JL (n:={ n with data:=n.data++YV f,Zs:=Z p }) hu]
 refine⟨by rw[eA];exact N.acc,by rw[eA];exact N.m,⟨fun _ e=>(by cases e),fun _ q hq=>?_,fun e=>?_,hl⟩,fun q hq=>?_,N.Zi,N.ZA,N.eh,fun r hr=>?_⟩
 .cases hq
  exact⟨n.data,f,rfl,h2,h1,hb⟩
 .rw[show ({ n with data:=n.data++YV f,Zs:=Z p }:Nd).up=n.up from rfl,hu]at e
  cases e
 .cases hq
  cases p<;>exact hr
 .have R:=N.Zh r hr;exact⟨R.ZS,R.may,R.ZI,R.pn,R.pr,R.safe,R.free,R.Xb⟩
theorem kK(hi:i<5)(G:GI S g M)(N:NR S g M i n)(hu:n.up=true)(hp:n.Zs=aa)(Dp:n.me=i){l:YH}:HR S g M i (YG n l):=by
 have eA:=JL hu;have Ux:=N.acc;have hM:=N.m;rw[eA]at Ux hM;unfold YG;split
 .exact .one N hu (.plain (.inr (.inr rfl)))
 .rename_i c1;split
  .rename_i c2;refine .one N hu ⟨fun _=>?_,fun e=>(by cases e),fun e=>(by cases e),fun e=>(by cases e),fun e=>(by cases e)⟩;have:=Ux.pf G hi hM;rw[c2]at this;show PF g M (((n.me:Nat):Int)).toNat l.b n.Zq.l;rw[aw,Dp];exact this
  .split
   .exact .same N hu
   .rename_i c3;have e1:YI n.Zq.p n.Zq.l l.b=0:=by simpa using c1
    have e3:Jp n.data n.Y4 l.b=0:=by simpa using c3
    refine⟨N.wait hu hp (f:=JT l.b) (d7 e1) ?_ ⟨rfl,rfl,e1⟩,hu,fun l hl=>by cases hl⟩;rw[ag,Nv];exact Ke e3
theorem ZeL(hi:i<5)(G:GI S g M)(N:NR S g M i n)(hu:n.up=true)(hp:n.Zs=aa)(Dp:n.me=i){l:YH}(L:g.P l.v.b l.v.Zu l.v.cm):HR S g M i (asked n l):=by
 have eA:=JL hu;have Ux:=N.acc;rw[eA]at Ux;unfold asked;split
 .exact .one N hu (.plain (.inr (.inr rfl)))
 .rename_i c1;split
  .rename_i c2;refine .one N hu ⟨fun e=>(by cases e),fun e=>(by cases e),fun _=>?_,fun e=>(by cases e),fun e=>(by cases e)⟩;show g.V (((n.me:Nat):Int)).toNat l.v.b l.v.Zu l.v.cm;rw[aw,Dp];exact Ux.has _ c2
  .split
   .exact .same N hu
   .rename_i c3;have e1:Xn n.Zq.p n.Zq.l l.v=0:=by simpa using c1
    have e3:Ue n.data n.Y4 l.v=0:=by simpa using c3
    refine⟨N.wait hu hp (f:=Uy l.v) (Zbc e1) ?_ ⟨rfl,e1,L⟩,hu,fun l hl=>by cases hl⟩;rw[ag,Ar];exact dV e3
theorem NR.more(N:NR S g M i n)(hp:n.Zs=aa){m:Nd}(h1:m.up=n.up)(h2:m.data=n.data)(h3:m.Y4=n.Y4)(h4:m.Zq=n.Zq)(h5:m.Zh=n.Zh)(h6:m.Zs=n.Zs)(k1:∀s x,Yh m.Zi s=Z x->Jr g s x)(k2:∀s,Yh m.Zi s=aa->Yh n.Zi s=aa)(k3:∀(k:Nat) x,m.ZA[k]? = Z x->Jr g (k:Int) x)(k4:n.ZA.length<=m.ZA.length)(k5:∀x∈m.Zx,S x):NR S g M i m:=by
 have eA:Wp m=Wp n:=by unfold Wp;rw[h1,h2,h4]
 have T:=N.tape;refine⟨by rw[eA];exact N.acc,by rw[eA];exact N.m,⟨fun e1 e2=>?_,fun _ p e=>?_,fun e=>?_,by rw[h2];exact T.len⟩,fun p e=>?_,k1,k3,k5,fun r e=>?_⟩
 .rw[h2,h3,h4];exact T.idle (by rw[<-h1];exact e1) hp
 .rw[h6,hp]at e;cases e
 .rw[h2,h3,h6];exact T.down (by rw[<-h1];exact e)
 .rw[h6,hp]at e;cases e
 .have R:=N.Zh r (by rw[<-h5];exact e);exact⟨R.ZS,R.may,R.ZI,R.pn,R.pr,R.safe,fun q s q1 q2 q3=>R.free q s pA q2 (k2 s q3),R.Xb⟩
theorem Zbh(N:NR S g M i n)(hp:n.Zs=aa){x:Cm}(hx:Yh n.Zi (n.ZA.length:Int)=Z x):NR S g M i (J4 n x):=by
 refine N.more hp rfl rfl rfl rfl rfl rfl N.Zi (fun s h=>h) (fun k y e=>?_) (by show n.ZA.length<=(n.ZA++[x]).length;simp) (fun y hy=>N.eh y (a2.1 hy).1);have e:(n.ZA++[x])[k]? = Z y:=e;rw[List.getElem?_append]at e;split at e
 .exact N.ZA k y e
 .rename_i q;have:k=n.ZA.length:=by
   refine a6 fun Y7=>?_;rw[List.getElem?_eq_none VL]at e
   cases e
  subst this;rw[Nat.sub_self]at e
  cases e
  exact N.Zi _ _ hx
theorem uc:∀(k:Nat) (n:Nd),NR S g M i n->n.Zs=aa->n.up=true->NR S g M i (Yg k n).1/\(Yg k n).1.Zs=aa/\(Yg k n).1.up=true:=by
 intro k
 induction k with
 | zero=>intro n N hp hu;exact⟨N,hp,hu⟩
 | succ k ih=>
  intro n N hp hu;unfold Yg;split
  .exact⟨N,hp,hu⟩
  .rename_i x hx;exact ih _ (Zbh N hp hx) hp hu
theorem oK(N:NR S g M i n)(hp:n.Zs=aa)(hu:n.up=true){s:Int}{x:Cm}(hc:Jr g s x):HR S g M i (Jl n s x):=by
 have N1:NR S g M i (Jk n s x):=by
  refine N.more hp rfl rfl rfl rfl rfl rfl (fun t y e=>?_) (fun t e=>?_) N.ZA (ba _) N.eh
  .have e:Yh (ins n.Zi s x) t=Z y:=e;rw[Xk]at e;split at e
   .rename_i q;cases e;rw[<-q];exact hc
   .exact N.Zi t y e
  .have e:Yh (ins n.Zi s x) t=aa:=e;rw[Xk]at e;split at e
   .cases e
   .exact e
 obtain⟨h1,_,h3⟩:=uc ((Jk n s x).Zi.length+1) _ N1 hp hu;exact⟨h1,h3,fun l hl=>by cases hl⟩
theorem NR.ZnI(N:NR S g M i n)(hp:n.Zs=aa)(R:RR g M i n r):NR S g M i { n with Zh:=Z r }:=
 ⟨N.acc,N.m,⟨N.tape.idle,N.tape.busy,N.tape.down,N.tape.len⟩,fun p e=>(by rw[show ({ n with Zh:=Z r }:Nd).Zs=n.Zs from rfl,hp]at e;cases e),N.Zi,N.ZA,N.eh,fun r' e=>by
  obtain rfl:=Option.some.inj e;exact⟨R.ZS,R.may,R.ZI,R.pn,R.pr,R.safe,R.free,R.Xb⟩⟩
theorem kL(G:GI S g M)(N:NR S g M i n)(hp:n.Zs=aa)(hu:n.up=true)(NI:Uj C i n){l:YH}(LI:Ui C l)(L:LR S g M l)(hk:l.Z3=1\/l.Z3=3):HR S g M i (Ym n l):=by
 unfold Ym;split
 .exact .same N hu
 .rename_i r hr;have R:=N.Zh r hr;have RI:=NI.Zh r hr;split
  .rename_i k1;split
   .rename_i k2;refine .same ?_ hu;refine N.ZnI hp ⟨R.ZS,R.may,fun j vs e=>?_,R.pn,R.pr,R.safe,R.free,R.Xb⟩;have e:Yh (ins r.ZI l.Jw l.vs) j=Z vs:=e;rw[Xk]at e;split at e
    .rename_i q;cases e;rw[<-q];have:=L.VN k1;rw[k2]at this;exact this
    .exact R.ZI j vs e
   .exact .same N hu
  .rename_i k1;have k3:l.Z3=3:=pA;split
   .exact .same N hu
   .rename_i k2;have eb:l.v.b=r.b:=a6 fun q=>k2 q;have hv:=L.TX k3;rw[eb]at hv;have Ov:∀j,Yh (Ug r l) j=Z ()->∃x,g.V j.toNat r.b l.v.Zu x:=fun j e=>by
     unfold Ug at e;rw[Xk]at e;split at e
     .rename_i q;rw[<-q];exact⟨_,hv⟩
     .cases q:Yh r.Xb l.v.Zu with
      | none=>rw[q]at e;cases e
      | some K=>rw[q]at e;exact R.Xb _ K j q e
    have N1:NR S g M i (TG n r l):=by
     refine N.ZnI hp ⟨R.ZS,R.may,R.ZI,R.pn,R.pr,R.safe,R.free,fun s K j e1 e2=>?_⟩;have e1:Yh (ins r.Xb l.v.Zu (Ug r l)) s=Z K:=e1;rw[Xk]at e1;split at e1
     .rename_i q;cases e1;rw[<-q];exact Ov j e2
     .exact R.Xb s K j e1 e2
    split
    .rename_i k4;refine oK N1 hp hu ?_;have KI:S4 5 (Ug r l):=by
      unfold Ug;refine S4.ins ?_ LI.Jw ()
      cases q:Yh r.Xb l.v.Zu with
      | none=>exact S4.nil 5
      | some K=>exact RI.RC _ (RZ q)
     refine⟨_,r.b,KI.maj k4,fun j hj=>?_⟩;obtain⟨u,hu⟩:=KI.back hj;obtain⟨x,hx⟩:=Ov j hu;rw[aw]at hx;have:=G.one _ _ _ _ (G.vp _ _ _ _ hx) (G.vp _ _ _ _ hv);rw[<-this];exact hx
    .exact .same N1 hu
theorem oL(N:NR S g M i n)(hp:n.Zs=aa)(l:YH):NR S g M i (Xz n l)/\(Xz n l).up=n.up:=by
 unfold Xz;split
 .exact⟨N.more hp rfl rfl rfl rfl rfl rfl N.Zi (fun s h=>h) N.ZA (ba _) N.eh,rfl⟩
 .exact⟨N,rfl⟩
theorem Zga(N:NR S g M i n){x:Cm}(hx:S x):NR S g M i (add n x)/\(add n x).up=n.up/\(add n x).Zs=n.Zs:=by
 unfold add;split
 .exact⟨N,rfl,rfl⟩
 .refine⟨⟨N.acc,N.m,⟨N.tape.idle,N.tape.busy,N.tape.down,N.tape.len⟩,fun p e=>?_,N.Zi,N.ZA,fun y hy=>?_,fun r e=>?_⟩,rfl,rfl⟩
  .have:=N.Zs p e
   cases p<;>exact this
  .rcases Y.1 hy with hy|hy
   .exact N.eh y hy
   .have:y=x:=by simpa using hy
    rw[this];exact hx
  .have R:=N.Zh r e;exact⟨R.ZS,R.may,R.ZI,R.pn,R.pr,R.safe,R.free,R.Xb⟩
theorem Zbi(hi:i<5)(G:GI S g M)(N:NR S g M i n)(hu:n.up=true)(hp:n.Zs=aa)(NI:Uj C i n){l:YH}(LI:Ui C l)(L:LR S g M l):HR S g M i (Zw n l):=by
 have Dp:=NI.me;unfold Zw;split
 .exact kK hi G N hu hp Dp
 split
 .rename_i k;exact kL G N hp hu NI LI L k
 split
 .rename_i k;exact ZeL hi G N hu hp Dp (L.ask k)
 split
 .rename_i k;obtain⟨h1,h2,_⟩:=Zga N (L.fwd k);exact .same h1 (by rw[h2];exact hu)
 split
 .unfold Qy;obtain⟨h1,h2⟩:=oL N hp l;split
  .rename_i x hx;refine .one h1 (by rw[h2];exact hu) ⟨fun e=>(by cases e),fun e=>(by cases e),fun e=>(by cases e),fun e=>(by cases e),fun _=>?_⟩;exact N.Zi _ _ hx
  .exact .same h1 (by rw[h2];exact hu)
 split
 .rename_i k;exact oK N hp hu (L.cho k)
 .obtain⟨h1,h2⟩:=oL N hp l;exact .same h1 (by rw[h2];exact hu)
theorem NR.box(N:NR S g M i n)(k:List YH):NR S g M i { n with Zg:=k }:=
 ⟨N.acc,N.m,⟨N.tape.idle,N.tape.busy,N.tape.down,N.tape.len⟩,fun p e=>(by have:=N.Zs p e;cases p<;>exact this),N.Zi,N.ZA,N.eh,fun r e=>by
  have R:=N.Zh r e;exact⟨R.ZS,R.may,R.ZI,R.pn,R.pr,R.safe,R.free,R.Xb⟩⟩
end
theorem kM(s:Int):∀(l:List Vt) (b:Vt),(l.foldl (U3 s) b=b\/(l.foldl (U3 s) b∈l/\(l.foldl (U3 s) b).Zu=s))/\¬ZM (l.foldl (U3 s) b).b b.b/\∀v∈l,v.Zu=s->¬ZM (l.foldl (U3 s) b).b v.b:=by
 intro l
 induction l with
 | nil=>intro b;exact⟨.inl rfl,QE _,fun v hv=>by cases hv⟩
 | cons x l ih=>
  intro b;obtain⟨h1,h2,h3⟩:=ih (U3 s b x);rw[a3];have hx:¬ZM (U3 s b x).b b.b/\(x.Zu=s->¬ZM (U3 s b x).b x.b)/\(U3 s b x=b\/(U3 s b x=x/\x.Zu=s)):=by
   unfold U3;split
   .rename_i q;exact⟨Ki q.2,fun _=>QE _,.inr ⟨rfl,q.1⟩⟩
   .rename_i q;exact⟨QE _,fun e f=>q ⟨e,f⟩,.inl rfl⟩
  refine⟨?_,Jb hx.1 h2,fun v hv e=>?_⟩
  .rcases h1 with h1|⟨h1,h4⟩
   .rw[h1];rcases hx.2.2 with q|⟨q,q2⟩
    .exact .inl q
    .rw[q];exact .inr ⟨IQ,q2⟩
   .exact .inr ⟨by simp[h1],h4⟩
  .rcases a7.1 hv with rfl|hv
   .exact Jb (hx.2.1 e) h2
   .exact h3 v hv e
theorem MN:∀(l:List Vt) (t:Int),t<=l.foldl (fun t v=>if t<v.Zu then v.Zu else t) t/\(∀v∈l,v.Zu<=l.foldl (fun t v=>if t<v.Zu then v.Zu else t) t)/\(l.foldl (fun t v=>if t<v.Zu then v.Zu else t) t=t\/∃v∈l,l.foldl (fun t v=>if t<v.Zu then v.Zu else t) t=v.Zu):=by
 intro l
 induction l with
 | nil=>intro t;exact⟨Int.le_refl _,fun v hv=>(by cases hv),.inl rfl⟩
 | cons x l ih=>
  intro t;obtain⟨h1,h2,h3⟩:=ih (if t<x.Zu then x.Zu else t);rw[a3];have hx:t<=(if t<x.Zu then x.Zu else t)/\x.Zu<=(if t<x.Zu then x.Zu else t)/\((if t<x.Zu then x.Zu else t)=t\/(if t<x.Zu then x.Zu else t)=x.Zu):=by
   split
   .exact⟨pA,pA,.inr rfl⟩
   .exact⟨pA,pA,.inl rfl⟩
  refine⟨pA,fun v hv=>?_,?_⟩
  .rcases a7.1 hv with rfl|hv
   .omega
   .exact h2 v hv
  .rcases h3 with h3|⟨v,hv,h3⟩
   .rcases hx.2.2 with q|q
    .exact .inl (by rw[h3,q])
    .exact .inr ⟨x,IQ,by rw[h3,q]⟩
   .exact .inr ⟨v,by simp[hv],h3⟩
theorem In{v:Vt}(h:v∈(Yp r).flatten):∃m:Nat,m<5/\∃vs,Yh r.ZI (m:Int)=Z vs/\v∈vs:=by
 obtain⟨l,h1,h2⟩:=bg.1 h;unfold Yp at h1;obtain⟨m,h3,rfl⟩:=am.1 h1;rw[a8]at h3
 cases e:Yh r.ZI (m:Int) with
 | none=>rw[e]at h2;cases h2
 | some vs=>rw[e]at h2;exact⟨m,h3,vs,e,h2⟩
theorem RK{v:Vt}{m:Nat}(hm:m<5){vs:List Vt}(h:Yh r.ZI (m:Int)=Z vs)(hv:v∈vs):v∈(Yp r).flatten:=by
 refine bg.2 ⟨vs,?_,hv⟩;unfold Yp;exact am.2 ⟨m,a8.2 hm,by rw[h];rfl⟩
theorem Io{a:UP}(h:Dr a)(hb:∀v∈a.l,¬ZM a.p v.b):JG a.p a.l=0:=by
 refine Oz ?_ (fun j hj=>?_)
 .rintro⟨h1,h2⟩;rcases h.bal with q|q
  .exact h1 q
  .exact h2 q
 .rw[LH hj];refine⟨h.Xb.1 _ (br hj),hb _ (br hj),?_⟩;by_cases e:j=0
  .exact .inl e
  .rw[Ni (j:=j-1) pA];exact .inr (List.pairwise_iff_getElem.1 h.Xb.2 (j-1) j pA hj pA)
section
variable {S:Cm->Prop} {g:Gh} {M:Nat->YA} {i:Nat} {n:Nd}
theorem Cy(RI:ML r):∀v∈(Yp r).flatten,Yo v:=fun v hv=>by
 obtain⟨m,_,vs,h1,h2⟩:=In hv;exact (RI.vs _ (RZ h1)).1 v h2
theorem ZeM(RI:ML r):Pm (Yp r).flatten<=39:=by
 obtain⟨_,_,h3⟩:=MN (Yp r).flatten (-1);have e:Pm (Yp r).flatten=(Yp r).flatten.foldl (fun t v=>if t<v.Zu then v.Zu else t) (-1):=rfl;rcases h3 with h3|⟨v,hv,h3⟩
 .omega
 .have:=(Cy RI v hv).1;omega
theorem ud(G:GI S g M)(R:RR g M i n r)(RI:ML r)(hb:r.XU=false)(hm:5<2*r.ZI.length)(s:Nat)(hs:(s:Int)<=Pm (Yp r).flatten):
  Safe g M r.b s (ON (Yp r) s)/\(ON (Yp r) s=Oa\/S (ON (Yp r) s)):=by
 have h39:=ZeM RI;have ue:=Cy RI;have zr:Sv (s:Int) (Yp r).flatten=0:=by
  unfold Sv WQ;rw[if_neg pA,if_pos (List.all_eq_true.2 fun v hv=>decide_eq_true (ue v hv))]
 have hpc:ON (Yp r) s=(WP (s:Int) (Yp r).flatten).cm:=by unfold ON;rw[if_pos zr]
 obtain⟨h1,_,h3⟩:=kM (s:Int) (Yp r).flatten SU;obtain⟨B,hB⟩:=ZL (WP (s:Int) (Yp r).flatten);rw[hpc,<-hB];have eB:(Yp r).flatten.foldl (U3 (s:Int)) SU=B:=hB.symm;rw[eB]at h1 h3;have hQ:=RI.ZI.maj hm;have hPF:∀i:Nat,i∈r.ZI.map (fun x=>x.1.toNat)->∃vs,Yh r.ZI (i:Int)=Z vs/\PF g M i r.b vs:=fun i hi=>by
  obtain⟨vs,h⟩:=RI.ZI.back hi;have:=R.ZI _ _ h;rw[aw]at this;exact⟨vs,h,this⟩
 have LP:∀i∈r.ZI.map (fun x=>x.1.toNat),¬ZM (M i) r.b:=fun i hi=>by
  obtain⟨vs,_,h⟩:=hPF i hi;exact h.Z5
 rcases h1 with h1|⟨h1,h4⟩
 .subst h1;refine⟨⟨_,hQ,LP,.inl fun i hi b' y Qi hv=>?_⟩,.inl rfl⟩;obtain⟨vs,Cq,h⟩:=hPF i hi;obtain⟨v,v1,v2,_⟩:=h.all b' s y Qi hv;have:=h3 v (RK h.lt Cq v1) v2;have:=(h.has v v1).1;have hvm:=ue v (RK h.lt Cq v1);have:=hvm.2.1;unfold ZF at this;have h7:ZM SU.b v.b:=by unfold ZM SU;simp only;omega
  exact h3 v (RK h.lt Cq v1) v2 h7
 .obtain⟨m,hm5,vs,e1,e2⟩:=In h1;have hp:=R.ZI _ _ e1;rw[aw]at hp;obtain⟨p1,p2⟩:=hp.has B e2;rw[h4]at p1;have p3:ZM B.b r.b:=by
   refine a6 fun q=>?_;have:=Py q p2;exact R.pn hb _ _ (by rw[<-this];exact G.vp _ _ _ _ p1)
  refine⟨⟨_,hQ,LP,.inr ⟨B.b,m,p3,p1,fun i hi b' y Qi hv=>?_⟩⟩,G.cmd _ _ _ (G.vp _ _ _ _ p1)⟩;obtain⟨vs',Cq,h⟩:=hPF i hi;obtain⟨v,v1,v2,v3⟩:=h.all b' s y Qi hv;exact Jb v3 (h3 v (RK h.lt Cq v1) v2)
theorem Zbj(R:RR g M i n r)(RI:ML r)(hm:5<2*r.ZI.length){s:Int}(hs:Pm (Yp r).flatten<s):Ho g M r.b s:=by
 have hQ:=RI.ZI.maj hm;obtain⟨_,h2,_⟩:=MN (Yp r).flatten (-1);refine⟨_,hQ,fun i hi=>?_,fun i hi b' y Qi hv=>?_⟩
 .obtain⟨vs,h⟩:=RI.ZI.back hi;have:=R.ZI _ _ h;rw[aw]at this;exact this.Z5
 .obtain⟨vs,h⟩:=RI.ZI.back hi;have h:=R.ZI _ _ h;rw[aw]at h;obtain⟨vs',h'⟩:=RI.ZI.back hi;have h:=R.ZI _ _ h';rw[aw]at h;obtain⟨v,v1,v2,_⟩:=h.all b' s y Qi hv;have:=h2 v (RK h.lt h' v1);have e:Pm (Yp r).flatten=(Yp r).flatten.foldl (fun t v=>if t<v.Zu then v.Zu else t) (-1):=rfl;omega
theorem kO(n:Nd)(LL:List (List Vt)):∀(cnt L:Nat) (pr:List (Int × Cm)),
  (∀t y,Yh ((bz L cnt).foldl (J6 n LL) pr) t=Z y->Yh pr t=Z y\/∃s:Nat,L<=s/\s<L+cnt/\t=s/\y=ON LL s) /\
  (∀s:Nat,L<=s->s<L+cnt->Yh n.Zi (s:Int)=aa->Yh ((bz L cnt).foldl (J6 n LL) pr) (s:Int)≠aa) /\
  (∀t,Yh pr t≠aa->Yh ((bz L cnt).foldl (J6 n LL) pr) t≠aa):=by
 intro cnt
 induction cnt with
 | zero=>intro L pr;exact⟨fun t y h=>.inl h,fun s h1 h2=>pA,fun t h=>h⟩
 | succ cnt ih=>
  intro L pr;rw[List.range'_succ,a3];obtain⟨h1,h2,h3⟩:=ih (L+1) (J6 n LL pr L);have hb:∀t,Yh pr t≠aa->Yh (J6 n LL pr L) t≠aa:=fun t h=>by
   unfold J6;split
   .rw[Xk];split
    .simp
    .exact h
   .exact h
  refine⟨fun t y h=>?_,fun s hs1 hs2 hk=>?_,fun t h=>h3 t (hb t h)⟩
  .rcases h1 t y h with h|⟨s,q1,q2,q3,q4⟩
   .unfold J6 at h;split at h
    .rw[Xk]at h;split at h
     .rename_i e;cases h;exact .inr ⟨L,pA,pA,e.symm,rfl⟩
     .exact .inl h
    .exact .inl h
   .exact .inr ⟨s,pA,pA,q3,q4⟩
  .by_cases e:s=L
   .subst e;refine h3 _ ?_;unfold J6;rw[if_pos hk,Xk,if_pos rfl];simp
   .exact h2 s pA pA hk
theorem Ny{n:Nd}{x:Cm}:∀(k s t:Nat),Qo n r x k s=Z t->s<=t/\t<s+k/\Yh r.ZY (t:Int)=aa/\Yh n.Zi (t:Int)=aa:=by
 intro k
 induction k with
 | zero=>intro s t h;cases h
 | succ k ih=>
  intro s t h;unfold Qo at h;split at h
  .cases h
  .split at h
   .rename_i q;cases h;exact⟨ba _,pA,q.1,q.2⟩
   .have:=ih _ _ h;exact⟨pA,pA,this.2.2⟩
structure RB(S:Cm->Prop)(g:Gh)(M:Nat->YA)(n:Nd)(r r':XE):Prop where
 b:r'.b=r.b
 ZI:r'.ZI=r.ZI
 Xb:r'.Xb=r.Xb
 XU:r'.XU=true
 Ku:∀t y,g.P r.b t y->Yh r'.ZY t=Z y
 safe:∀t y,Yh r'.ZY t=Z y->Safe g M r.b t y/\(y=Oa\/S y)
 free:∀s:Int,(n.ZA.length:Int)<=s->Yh r'.ZY s=aa->Yh n.Zi s=aa->Ho g M r.b s
theorem RB.one{r':XE}(h:RB S g M n r r'){x:Cm}(hx:S x):RB S g M n r (Qc n r' x):=by
 unfold Qc;split
 .rename_i s hs;obtain⟨h1,h2,h3,h4⟩:=Ny _ _ _ hs;have ho:=h.free s pA h3 h4;refine⟨h.b,h.ZI,h.Xb,h.XU,fun t y e=>?_,fun t y e=>?_,fun t q1 q2 q3=>?_⟩
  .have:=h.Ku t y e;show Yh (ins r'.ZY (s:Int) x) t=Z y;rw[Xk,if_neg (fun e=>by rw[<-e,h3]at this;cases this)];exact this
  .have e:Yh (ins r'.ZY (s:Int) x) t=Z y:=e;rw[Xk]at e;split at e
   .rename_i q;cases e;rw[<-q];exact⟨ho.safe x,.inr hx⟩
   .exact h.safe t y e
  .have q2:Yh (ins r'.ZY (s:Int) x) t=aa:=q2;rw[Xk]at q2;split at q2
   .cases q2
   .exact h.free t q1 q2 q3
 .exact h
theorem RB.all:∀(l:List Cm) (r':XE),RB S g M n r r'->(∀x∈l,S x)->RB S g M n r (Jj n r' l):=by
 intro l
 induction l with
 | nil=>intro r' h _;exact h
 | cons x l ih=>intro r' h hl;exact ih _ (h.one (hl x IQ)) (fun y hy=>hl y (by simp[hy]))
theorem Zbk(G:GI S g M)(R:RR g M i n r)(RI:ML r)(hb:r.XU=false)(hm:5<2*r.ZI.length):RB S g M n r (Wn n r):=by
 obtain⟨h1,h2,_⟩:=kO n (Yp r) ((Pm (Yp r).flatten+1).toNat-n.ZA.length) n.ZA.length r.ZY;refine⟨rfl,rfl,rfl,rfl,fun t y e=>(R.pn hb _ _ e).elim,fun t y e=>?_,fun s q1 q2 q3=>?_⟩
 .rcases h1 t y e with e|⟨s,s1,s2,rfl,rfl⟩
  .exact (R.pn hb _ _ (R.safe _ _ e)).elim
  .exact ud G R RI hb hm s pA
 .obtain⟨k,rfl⟩:∃k:Nat,s=k:=⟨s.toNat,pA⟩
  by_cases hk:(k:Int)<=Pm (Yp r).flatten
  .exact (h2 k pA pA q3 q2).elim
  .exact Zbj R RI hm pA
theorem RR.rb(G:GI S g M)(R:RR g M i n r)(hb:r.XU=true):RB S g M n r r:=
 ⟨rfl,rfl,rfl,hb,R.pr,fun t y e=>⟨G.safe _ _ _ (R.safe _ _ e),G.cmd _ _ _ (R.safe _ _ e)⟩,R.free hb⟩
theorem Zbl(G:GI S g M)(R:RR g M i n r)(RI:ML r)(hm:5<2*r.ZI.length)(hq:∀x∈n.Zx,S x):RB S g M n r (X9 n r):=by
 unfold X9;refine RB.all _ _ ?_ hq;split
 .rename_i hb;exact R.rb G hb
 .rename_i hb;exact Zbk G R RI (by simpa using hb) hm
structure SR(S:Cm->Prop)(g:Gh)(M:Nat->YA)(i:Nat)(o:Out)(g':Gh)(M':Nat->YA):Prop where
 e:Ext i g M g' M'
 gi:GI S g' M'
 h:HR S g' M' i o
theorem SR.same(G:GI S g M){o:Out}(h:HR S g M i o):SR S g M i o g M:=⟨Ext.refl _ _ _,G,h⟩
theorem ZiE(hi:i<5)(G:GI S g M)(N:NR S g M i n)(hu:n.up=true)(hp:n.Zs=aa)(NI:Uj C i n)(hr:n.Zh=Z r):∃g' M',SR S g M i (JU n r) g' M':=by
 have eA:=JL hu;have R:=N.Zh r hr;have RI:=NI.Zh r hr;have Ux:=N.acc;have hM:=N.m;rw[eA]at Ux hM;unfold JU;split
 .rename_i c1;split
  .exact⟨g,M,.same G (.same N hu)⟩
  .rename_i c2;have ea:JG n.Zq.p n.Zq.l=0:=Io NI.Zq (fun v hv=>by rw[<-hM];exact G.Z5 _ _ _ _ (Ux.has v hv));have e1:YI n.Zq.p n.Zq.l r.b=0:=by
    unfold YI;rw[if_neg (by rw[ea];decide),if_neg (fun h=>h R.may),if_neg (Ki c1)]
   have e3:Jp n.data n.Y4 r.b=0:=by simpa using c2
   rw[if_pos e1,if_pos e1];refine⟨g,M,.same G ⟨N.wait hu hp (f:=JT r.b) (d7 e1) ?_ ⟨r.b,rfl,rfl,e1,fun _=>⟨r,hr,rfl⟩⟩,hu,fun l hl=>by cases hl⟩⟩;rw[ag,Nv];exact Ke e3
 .rename_i c1;split
  .refine⟨g,M,.same G ⟨N,hu,fun l hl=>?_⟩⟩;unfold Pq at hl;obtain⟨m,_,hl⟩:=bh.1 hl;split at hl
   .rw[aO.1 hl];exact .plain (.inl rfl)
   .cases hl
  .rename_i c2;have B:=Zbl G R RI (by simpa using c2) N.eh;have hP:=dZ G (i:=i) (b:=r.b) (l:=(X9 n r).ZY) R.ZS R.may (by rw[hM];exact c1) B.Ku (fun t y e=>(B.safe t y e).1) (fun t y e=>(B.safe t y e).2);obtain⟨E,G'⟩:=hP;obtain⟨g',EL⟩:=ZL (oH g r.b (X9 n r).ZY);have hV:g'.V=g.V:=by rw[EL];rfl
   have hPn:∀s x,Yh (X9 n r).ZY s=Z x->g'.P r.b s x:=fun s x e=>by rw[EL];exact .inr ⟨rfl,e⟩
   have hPo:∀s x,g'.P r.b s x->Yh (X9 n r).ZY s=Z x:=fun s x e=>by
    rw[EL]at e;rcases e with e|e
    .exact B.Ku s x e
    .exact e.2
   rw[<-EL]at E G';have Nn:NR S g' M i { n with Zh:=Z (X9 n r) }:=by
    refine⟨⟨fun v hv=>E.v _ _ _ _ (N.acc.has v hv),fun b s x hv=>N.acc.all b s x (by rw[<-hV];exact hv)⟩,N.m,⟨N.tape.idle,N.tape.busy,N.tape.down,N.tape.len⟩,fun p e=>?_,fun s x e=>(N.Zi s x e).ext E,fun k x e=>(N.ZA k x e).ext E,N.eh,fun r' e=>?_⟩
    .rw[show ({ n with Zh:=Z (X9 n r) }:Nd).Zs=n.Zs from rfl,hp]at e;cases e
    .obtain rfl:=Option.some.inj e;refine⟨by rw[B.b];exact R.ZS,by rw[B.b];exact R.may,fun j vs q=>?_,fun q=>?_,?_,?_,?_,fun s K j q1 q2=>?_⟩
     .rw[B.ZI]at q;rw[B.b];exact (R.ZI j vs q).ext E
     .rw[B.XU]at q;cases q
     .rw[B.b];exact hPo
     .rw[B.b];exact hPn
     .rw[B.b];exact fun _ s q1 q2 q3=>(B.free s q1 q2 q3).ext E
     .rw[B.Xb]at q1;rw[B.b,hV];exact R.Xb s K j q1 q2
   refine⟨g',M,E,G',Nn,hu,fun l hl=>?_⟩;have hl:l∈TH n (X9 n r):=hl;unfold TH at hl;obtain⟨s,_,hl⟩:=bh.1 hl;unfold VG at hl;split at hl
   .rename_i x hx;split at hl
    .obtain⟨m,_,hl⟩:=bh.1 hl;unfold PU at hl;split at hl
     .obtain rfl:=aO.1 hl;refine⟨fun e=>(by cases e),fun _=>?_,fun e=>(by cases e),fun e=>(by cases e),fun e=>(by cases e)⟩;show g'.P (X9 n r).b _ _;rw[B.b];exact hPn _ _ hx
     .cases hl
    .cases hl
   .cases hl
theorem ZeN(N:NR S g M i n)(hp:n.Zs=aa)(hu:n.up=true):NR S g M i (Zo n)/\(Zo n).Zs=aa/\(Zo n).up=true:=by
 unfold Zo;split
 .rename_i r hr;split
  .refine⟨⟨N.acc,N.m,⟨N.tape.idle,N.tape.busy,N.tape.down,N.tape.len⟩,fun p e=>?_,N.Zi,N.ZA,N.eh,fun r' e=>by cases e⟩,hp,hu⟩;have e:n.Zs=Z p:=e;rw[hp]at e;cases e
  .exact⟨N,hp,hu⟩
 .exact⟨N,hp,hu⟩
theorem ZeO(hi:i<5)(G:GI S g M)(N:NR S g M i n)(hu:n.up=true)(hp:n.Zs=aa)(NI:Uj C i n):∃g' M',SR S g M i (Z9 n) g' M':=by
 unfold Z9;split
 .rename_i r hr;exact ZiE hi G N hu hp NI hr
 .split
  .refine⟨g,M,.same G ⟨N,hu,fun l hl=>?_⟩⟩;have hl:l∈WD n:=hl;unfold WD at hl;obtain⟨x,hx,rfl⟩:=am.1 hl;exact⟨fun e=>(by cases e),fun e=>(by cases e),fun e=>(by cases e),fun _=>N.eh x hx,fun e=>(by cases e)⟩
  .exact⟨g,M,.same G (.same N hu)⟩
theorem uf(n:Nd):∀l∈UV n,LR S g M l:=fun l hl=>by
 unfold UV at hl;split at hl
 .rw[aO.1 hl];exact .plain (.inr (.inl rfl))
 .cases hl
theorem NR.Yv(N:NR S g M i n):NR S g M i (J7 n):=
 ⟨N.acc,N.m,⟨N.tape.idle,N.tape.busy,N.tape.down,N.tape.len⟩,fun p e=>(by have:=N.Zs p e;cases p<;>exact this),N.Zi,N.ZA,N.eh,fun r e=>by
  have R:=N.Zh r e;exact⟨R.ZS,R.may,R.ZI,R.pn,R.pr,R.safe,R.free,R.Xb⟩⟩
theorem ZiF(hi:i<5)(G:GI S g M)(N:NR S g M i n)(hu:n.up=true)(hp:n.Zs=aa)(NI:Uj C i n):∃g' M',SR S g M i (Yq n) g' M':=by
 obtain⟨N1,p1,u1⟩:=ZeN N hp hu;obtain⟨g',M',E,G',H⟩:=ZeO hi G N1 u1 p1 (om NI).1;unfold Yq;split
 .exact⟨g',M',E,G',H⟩
 .refine⟨g',M',E,G',H.n.Yv,H.up,fun l hl=>?_⟩;rcases Y.1 hl with hl|hl
  .exact H.ls l hl
  .exact uf _ l hl
theorem Zbm(G:GI S g M)(N:NR S g M i n)(hu:n.up=true){p:Kv}(hp:n.Zs=Z p):∃g' M',Ext i g M g' M'/\GI S g' M'/\AR g' i (WV p)/\M' i=(WV p).p/\(∀b s x,g'.P b s x↔g.P b s x)/\(∀a to v,p=.TX a to v->g'.V i v.b v.Zu v.cm):=by
 have eA:=JL hu;have Ux:=N.acc;have hM:=N.m;rw[eA]at Ux hM;have hPR:=N.Zs p hp;have same:∀b,¬ZM b (M i)->∃g' M',Ext i g M g' M'/\GI S g' M'/\AR g' i ⟨b,n.Zq.l⟩/\M' i=b/\(∀b s x,g'.P b s x↔g.P b s x):=fun b hb=>by
  obtain⟨E,G'⟩:=raised G hb;exact⟨g,NO M i b,E,G',⟨Ux.has,Ux.all⟩,by unfold NO;rw[if_pos rfl],fun _ _ _=>Iff.rfl⟩
 cases p with
 | VN a to b vs=>
  obtain⟨rfl,rfl,h3⟩:=hPR;obtain⟨g',M',h1,h2,h4,h5,h6⟩:=same b (by rw[hM];exact Kj h3);exact⟨g',M',h1,h2,h4,h5,h6,fun _ _ _ e=>by cases e⟩
 | Zq a vs cur=>
  obtain⟨b,rfl,rfl,h3,_⟩:=hPR;obtain⟨g',M',h1,h2,h4,h5,h6⟩:=same b (by rw[hM];exact Kj h3);exact⟨g',M',h1,h2,h4,h5,h6,fun _ _ _ e=>by cases e⟩
 | TX a to v=>
  obtain⟨rfl,h3,h4⟩:=hPR;have Xv:=Kk h3;obtain⟨E,G'⟩:=ZnH G h4 (by rw[hM];exact Xv);refine⟨_,_,E,G',⟨fun u hu=>?_,fun b s x hv=>?_⟩,by unfold NO;rw[if_pos rfl];rfl,fun _ _ _=>Iff.rfl,fun _ _ _ e=>by cases e;exact .inr ⟨rfl,rfl,rfl,rfl⟩⟩
  .have hu:u∈n.Zq.l.filter (fun x=>decide (x.Zu<v.Zu))++v :: n.Zq.l.filter (fun x=>decide (v.Zu<x.Zu)):=hu;rcases Y.1 hu with hu|hu
   .exact .inl (Ux.has u (a2.1 hu).1)
   .rcases a7.1 hu with rfl|hu
    .exact .inr ⟨rfl,rfl,rfl,rfl⟩
    .exact .inl (Ux.has u (a2.1 hu).1)
  .have Zgc:v∈JH n.Zq.l v:=by unfold JH;simp
   rcases hv with hv|⟨_,rfl,rfl,rfl⟩
   .obtain⟨u,u1,u2,u3⟩:=Ux.all b s x hv;by_cases e:u.Zu=v.Zu
    .refine⟨v,Zgc,by rw[<-e];exact u2,?_⟩;have:=G.Z5 _ _ _ _ hv;rw[hM]at this;exact Jb this Xv
    .refine⟨u,?_,u2,u3⟩;show u∈JH n.Zq.l v;unfold JH;rcases Int.lt_or_gt_of_ne e with q|q
     .exact Y.2 (.inl (a2.2 ⟨u1,by simpa using q⟩))
     .exact Y.2 (.inr (a7.2 (.inr (a2.2 ⟨u1,by simpa using q⟩))))
   .exact⟨v,Zgc,rfl,QE _⟩
theorem NR.rest(N:NR S g M i n){g':Gh}{M':Nat->YA}(E:Ext i g M g' M')(hP:∀b s x,g'.P b s x↔g.P b s x):(∀s x,Yh n.Zi s=Z x->Jr g' s x)/\(∀(k:Nat) x,n.ZA[k]? = Z x->Jr g' (k:Int) x)/\∀r,n.Zh=Z r->RR g' M' i n r:=by
 refine⟨fun s x e=>(N.Zi s x e).ext E,fun k x e=>(N.ZA k x e).ext E,fun r e=>?_⟩;have R:=N.Zh r e;exact⟨R.ZS,R.may,fun j vs q=>(R.ZI j vs q).ext E,fun q s x h=>R.pn q s x ((hP _ _ _).1 h),fun s x h=>R.pr s x ((hP _ _ _).1 h),fun s x h=>(hP _ _ _).2 (R.safe s x h),fun q s q1 q2 q3=>(R.free q s q1 q2 q3).ext E,fun s K j q1 q2=>by
  obtain⟨x,hx⟩:=R.Xb s K j q1 q2;exact⟨x,E.v _ _ _ _ hx⟩⟩
theorem ej(T:TR n)(hu:n.up=true){p:Kv}(hp:n.Zs=Z p):(ZQ n).data=n.data/\(ZQ n).Y4=(U n.data)/\Whole n.data (WV p):=by
 obtain⟨d,f,h1,h2,h3,h4⟩:=T.busy hu p hp;have hl:=T.len;have ok:Y0 n.data n.Y4:=⟨hl,pA,by rw[h2,h1,ag];omega⟩
 refine⟨by unfold ZQ;simp only[if_pos ok],by unfold ZQ;simp only[if_pos ok],?_⟩;rw[h1];exact h3.add h4
theorem Zbn(hi:i<5)(G:GI S g M)(N:NR S g M i n)(hu:n.up=true)(Dp:n.me=i){p:Kv}(hp:n.Zs=Z p):∃g' M',SR S g M i (YM (ZQ n) p) g' M':=by
 obtain⟨g',M',E,G',A,m',hP,hvt⟩:=Zbm G N hu hp;obtain⟨r1,r2,r3⟩:=N.rest E hP;obtain⟨t1,t2,t3⟩:=ej N.tape hu hp;have hPR:=N.Zs p hp;have hl:=N.tape.len;have base:∀(m:Nd),m.up=n.up->m.data=n.data->m.Y4=(U n.data)->m.Zq=WV p->m.Zs=aa->m.Zi=n.Zi->m.ZA=n.ZA->m.Zx=n.Zx->(∀r,m.Zh=Z r->RR g' M' i m r)->NR S g' M' i m:=fun m e1 e2 e3 e4 e5 e6 e7 e8 e9=>by
  have eA:Wp m=WV p:=by rw[JL (by rw[e1];exact hu),e4]
  refine⟨by rw[eA];exact A,by rw[eA];exact m',⟨fun _ _=>⟨by rw[e2,e4];exact t3,by rw[e3,e2]⟩,fun _ q hq=>(by rw[e5]at hq;cases hq),fun h=>(by rw[e1,hu]at h;cases h),by rw[e2];exact hl⟩,fun q hq=>(by rw[e5]at hq;cases hq),by rw[e6];exact r1,by rw[e7];exact r2,by rw[e8];exact N.eh,e9⟩
 have rr:∀(m:Nd),m.Zi=n.Zi->m.ZA=n.ZA->∀r,RR g' M' i n r->RR g' M' i m r:=fun m e1 e2 r R=>⟨R.ZS,R.may,R.ZI,R.pn,R.pr,R.safe,fun q s q1 q2 q3=>R.free q s (by rw[<-e2];exact q1) q2 (by rw[<-e1];exact q3),R.Xb⟩
 have pf:=A.pf G' hi m';refine⟨g',M',E,G',?_⟩
 cases p with
 | VN a to b vs=>
  obtain⟨rfl,rfl,h3⟩:=hPR;show HR S g' M' i ⟨{ ZQ n with Zq:=⟨b,n.Zq.l⟩ },[⟨1,n.me,to,b,SU,n.Zq.l⟩],[]⟩;refine .one (base { ZQ n with Zq:=⟨b,n.Zq.l⟩ } rfl t1 t2 rfl rfl rfl rfl rfl fun r e=>rr { ZQ n with Zq:=⟨b,n.Zq.l⟩ } rfl rfl r (r3 r e)) hu ⟨fun _=>?_,fun e=>(by cases e),fun e=>(by cases e),fun e=>(by cases e),fun e=>(by cases e)⟩;show PF g' M' (((n.me:Nat):Int)).toNat b n.Zq.l;rw[aw,Dp];exact pf
 | TX a to v=>
  obtain⟨rfl,h3,h4⟩:=hPR;show HR S g' M' i ⟨{ ZQ n with Zq:=⟨v.b,JH n.Zq.l v⟩ },[⟨3,n.me,to,Jq,v,[]⟩],[]⟩;refine .one (base { ZQ n with Zq:=⟨v.b,JH n.Zq.l v⟩ } rfl t1 t2 rfl rfl rfl rfl rfl fun r e=>rr { ZQ n with Zq:=⟨v.b,JH n.Zq.l v⟩ } rfl rfl r (r3 r e)) hu ⟨fun e=>(by cases e),fun e=>(by cases e),fun _=>?_,fun e=>(by cases e),fun e=>(by cases e)⟩;show g'.V (((n.me:Nat):Int)).toNat v.b v.Zu v.cm;rw[aw,Dp];exact hvt _ _ _ rfl
 | Zq a vs cur=>
  obtain⟨b,rfl,rfl,h3,h4⟩:=hPR;show HR S g' M' i ⟨{ ZQ n with Zq:=⟨b,n.Zq.l⟩,Zh:=if cur=true then (ZQ n).Zh.map (fun r=>{ r with ZI:=ins r.ZI (ZQ n).me n.Zq.l }) else (ZQ n).Zh },[],[]⟩;refine .same (base { ZQ n with Zq:=⟨b,n.Zq.l⟩,Zh:=if cur=true then (ZQ n).Zh.map (fun r=>{ r with ZI:=ins r.ZI (ZQ n).me n.Zq.l }) else (ZQ n).Zh } rfl t1 t2 rfl rfl rfl rfl rfl fun r e=>?_) hu
  cases hc:cur with
  | false=>
   have e:n.Zh=Z r:=by
    have e:(if cur=true then (ZQ n).Zh.map (fun r=>{ r with ZI:=ins r.ZI (ZQ n).me n.Zq.l }) else (ZQ n).Zh)=Z r:=e;rw[hc]at e;exact e
   refine rr ?m ?a ?b r (r3 r e)
   .rfl
   .rfl
  | true=>
   obtain⟨r0,hr0,vq⟩:=h4 hc;have e:(if cur=true then (ZQ n).Zh.map (fun r=>{ r with ZI:=ins r.ZI (ZQ n).me n.Zq.l }) else (ZQ n).Zh)=Z r:=e;rw[hc,if_pos rfl,show (ZQ n).Zh=n.Zh from rfl,hr0]at e;obtain rfl:=Option.some.inj e;have R:=r3 r0 hr0;have R2:RR g' M' i n { r0 with ZI:=ins r0.ZI ((n.me:Nat):Int) n.Zq.l }:=by
    refine⟨R.ZS,R.may,fun j vs q=>?_,R.pn,R.pr,R.safe,R.free,R.Xb⟩;have q:Yh (ins r0.ZI ((n.me:Nat):Int) n.Zq.l) j=Z vs:=q;rw[Xk]at q;split at q
    .rename_i qq
     cases q
     rw[<-qq,aw,Dp];have:PF g' M' i b n.Zq.l:=pf;rw[<-vq]at this;exact this
    .exact R.ZI j vs q
   exact⟨R2.ZS,R2.may,R2.ZI,R2.pn,R2.pr,R2.safe,R2.free,R2.Xb⟩
theorem oM(hi:i<5)(G:GI S g M):∀(k:List YH) (n:Nd),NR S g M i n->n.up=true->n.Zs=aa->Uj C i n->(∀l∈k,Ui C l/\LR S g M l) ->
  HR S g M i (ZB n k)/\Uj C i (ZB n k).n/\(∀l∈(ZB n k).n.Zg,LR S g M l):=by
 intro k
 induction k with
 | nil=>
  intro n N hu hp NI _;unfold ZB;exact⟨.same (N.box []) hu,{ NI with },fun l hl=>by cases hl⟩
 | cons l k ih=>
  intro n N hu hp NI hk;unfold ZB;rw[if_neg (by rw[hp];decide)];have H:=Zbi hi G (N.box k) hu hp (NI.Zg k) (hk l IQ).1 (hk l IQ).2;have I:=(Kf hi (NI.Zg k) (hk l IQ).1).nd;obtain⟨m,hm⟩:=ZL ((Zw { n with Zg:=k } l).n);have Hn:=H.n;have Hu:=H.up;rw[<-hm]at Hn Hu I;rw[<-hm];by_cases hpm:m.Zs=aa
  .obtain⟨h1,h2,h3⟩:=ih m Hn Hu hpm I (fun x hx=>hk x (by simp[hx]));refine⟨⟨h1.n,h1.up,fun x hx=>?_⟩,h2,h3⟩;rcases Y.1 hx with hx|hx
   .exact H.ls x hx
   .exact h1.ls x hx
  .have hs:m.Zs.isSome=true:=by
    cases q:m.Zs with
    | none=>exact (hpm q).elim
    | some _=>rfl
   have key:(ZB m k).n = { m with Zg:=k }/\(ZB m k).ls=[]:=by
    cases k with
    | nil=>unfold ZB;exact⟨rfl,rfl⟩
    | cons a k=>unfold ZB;rw[if_pos hs];exact⟨rfl,rfl⟩
   rw[key.1,key.2];refine⟨⟨Hn.box k,Hu,fun x hx=>?_⟩,I.Zg k,fun x hx=>(hk x (by
    have hx:x∈k:=hx;simp[hx])).2⟩
   rcases Y.1 hx with hx|hx
   .exact H.ls x hx
   .cases hx
end
structure TS(S:Cm->Prop)(g:Gh)(M:Nat->YA)(i:Nat)(o:Out)(g':Gh)(M':Nat->YA):Prop where
 e:Ext i g M g' M'
 gi:GI S g' M'
 n:NR S g' M' i o.n
 ls:∀l∈o.ls,LR S g' M' l
 Wz:∀l∈o.n.Zg,LR S g' M' l
section
variable {S:Cm->Prop} {g:Gh} {M:Nat->YA} {i:Nat} {n:Nd}
theorem TS.Zo(G:GI S g M)(N:NR S g M i n)(hb:∀l∈n.Zg,LR S g M l):TS S g M i ⟨n,[],[]⟩ g M:=⟨Ext.refl _ _ _,G,N,(fun l hl=>by cases hl),hb⟩
theorem ZiH(hi:i<5)(G:GI S g M)(N:NR S g M i n)(hC:(U C)<=100000)(NI:Uj C i n)(hk:∀l∈n.Zg,Ui C l/\LR S g M l):∃g' M',TS S g M i (step n) g' M':=by
 unfold step;split
 .rename_i hu;split
  .rename_i p hp;obtain⟨g',M',E,G',H⟩:=Zbn hi G N hu NI.me hp;have Ha:=(Ed hi (Ec NI) (NI.Zs p hp)).2.2.1;refine⟨g',M',E,G',H.n,H.ls,fun l hl=>?_⟩;rw[Ha]at hl;exact (hk l hl).2.ext E
  .rename_i hp;obtain⟨H,I,B⟩:=oM hi G n.Zg n N hu hp NI hk;split
   .exact⟨g,M,Ext.refl _ _ _,G,H.n,H.ls,B⟩
   .rename_i Oc;have ZwS:(ZB n n.Zg).n.Zs=aa:=by
     cases q:(ZB n n.Zg).n.Zs with
     | none=>rfl
     | some _=>rw[q]at Oc;exact (Oc rfl).elim
    obtain⟨g',M',E,G',D⟩:=ZiF hi G H.n H.up ZwS I;have Ha:=(kv hi hC I).2.2.1;refine⟨g',M',E,G',D.n,fun l hl=>?_,fun l hl=>?_⟩
    .rcases Y.1 hl with hl|hl
     .exact (H.ls l hl).ext E
     .exact D.ls l hl
    .have hl:l∈(Yq (ZB n n.Zg).n).n.Zg:=hl;rw[Ha]at hl;exact (B l hl).ext E
 .exact⟨g,M,.Zo G N fun l hl=>(hk l hl).2⟩
theorem ZiI(hi:i<5)(G:GI S g M)(N:NR S g M i n)(NI:Uj C i n):NR S g M i (lead n):=by
 unfold lead;split
 .exact N
 .rename_i q;have hu:n.up=true:=by
   cases e:n.up with
   | true=>rfl
   | false=>exact (q (.inl e)).elim
  have eA:=JL hu;have hM:=N.m;rw[eA]at hM;have hr:¬65536<(Ju n).r:=fun e=>q (.inr e);have ZJ1:=NI.Zq.tO.1;have hrr:n.Zq.p.r<(Ju n).r/\1<=(Ju n).r:=by
   unfold Ju;simp only;split<;>omega
  have mj:∀s x,¬g.P (Ju n) s x:=fun s x h=>by
   have:=G.Zq _ _ _ h;rw[show (Ju n).n=((n.me:Nat):Int) from rfl,aw,NI.me,hM]at this;exact this (.inl hrr.1)
  have T4:(Ju n).n=i:=by rw[show (Ju n).n=((n.me:Nat):Int) from rfl,NI.me]
  refine⟨N.acc,N.m,⟨fun h1 h2=>N.tape.idle h1 ?_,fun h1 p hp=>?_,fun h=>?_,N.tape.len⟩,fun p hp=>?_,N.Zi,N.ZA,N.eh,fun r e=>?_⟩
  .have h2:Ja n.Zs=aa:=h2
   cases e:n.Zs with
   | none=>rfl
   | some p=>rw[e]at h2;cases p<;>cases h2
  .have hp:Ja n.Zs=Z p:=hp
   cases e:n.Zs with
   | none=>rw[e]at hp;cases hp
   | some p0=>
    obtain⟨d,f,t1,t2,t3,t4⟩:=N.tape.busy hu p0 e;refine⟨d,f,t1,t2,t3,?_⟩;have:WV p=WV p0:=by
     rw[e]at hp
     cases p0<;>cases hp<;>rfl
    rw[this];exact t4
  .have h:n.up=false:=h;rw[hu]at h;cases h
  .have hp:Ja n.Zs=Z p:=hp
   cases e:n.Zs with
   | none=>rw[e]at hp;cases hp
   | some p0=>
    have P:=N.Zs p0 e;rw[e]at hp
    cases p0 with
    | VN a to b vs=>cases hp;exact P
    | TX a to v=>cases hp;exact P
    | Zq a vs cur=>
     cases hp
     obtain⟨b,h1,h2,h3,_⟩:=P;exact⟨b,h1,h2,h3,fun h=>by cases h⟩
  .obtain rfl:=Option.some.inj e;exact⟨T4,⟨⟨hrr.2,by show (Ju n).r<=65536;omega⟩,by show 0<=(Ju n).n/\(Ju n).n<=4;rw[T4];omega⟩,fun j vs h=>(by cases h),fun _ s x=>mj s x,fun s x h=>(mj s x h).elim,fun s x h=>(by cases h),fun h=>(by cases h),fun s K j h=>by cases h⟩
theorem Gq{A:UP}{up:Bool}{d:List Nat}{z:Int}(Ux:AR g i (Wp (Yu i up d z A)))(hm:M i=(Wp (Yu i up d z A)).p)(ht:TR (Yu i up d z A)):NR S g M i (Yu i up d z A):=
 ⟨Ux,hm,ht,fun p e=>(by cases e),fun s x e=>(by cases e),fun k x e=>(by simp[Yu]at e),fun x e=>(by cases e),fun r e=>by cases e⟩
theorem Ds(i:Nat)(n:Nd)(Zf:Int)(hu:n.up=true):∃d z,Xy i n Zf=Yu i false d z JN:=by
 unfold Xy;rw[if_pos hu];split
 .exact⟨_,_,rfl⟩
 .exact⟨_,_,rfl⟩
theorem ug(G:GI S g M)(N:NR S g M i n)(hb:∀l∈n.Zg,LR S g M l){Zf:Int}(hk:0<=Zf):∃g' M',TS S g M i ⟨Xy i n Zf,[],[]⟩ g' M':=by
 cases hu:n.up with
 | false=>
  have:Xy i n Zf=n:=by unfold Xy;rw[if_neg (by rw[hu];decide)]
  rw[this];exact⟨g,M,.Zo G N hb⟩
 | true=>
  obtain⟨t1,t2,t3⟩:=kI N.tape hu hk (i:=i);obtain⟨d,z,e⟩:=Ds i n Zf hu;rw[e]at t1 t2 t3 ⊢;have eA:=JL hu;rcases t3 with t3|⟨p,hp,t3⟩
  .have Ux:=N.acc;have hm:=N.m;rw[eA,<-t3]at Ux hm;exact⟨g,M,.Zo G (Gq Ux hm t1) (fun l hl=>by cases hl)⟩
  .obtain⟨g',M',E,G',A,m',_,_⟩:=Zbm G N hu hp;rw[<-t3]at A m';exact⟨g',M',E,G',Gq A m' t1,(fun l hl=>by cases hl),fun l hl=>by cases hl⟩
theorem uh(N:NR S g M i n):NR S g M i (started i n):=by
 cases hu:n.up with
 | true=>
  have:started i n=n:=by unfold started;rw[if_pos hu]
  rw[this];exact N
 | false=>
  obtain⟨t1,t2,t3⟩:=kJ N.tape hu (i:=i);have Ux:=N.acc;have hm:=N.m;have e2:=JL t2;rw[t3]at e2;rw[<-e2]at Ux hm;have e:∃d z A,started i n=Yu i true d z A:=by
   unfold started;rw[if_neg (by rw[hu];decide)];exact⟨_,_,_,rfl⟩
  obtain⟨d,z,A,e⟩:=e;rw[e]at t1 Ux hm ⊢;exact Gq Ux hm t1
end
structure TI(S:Cm->Prop)(g:Gh)(M:Nat->YA)(w:Wd):Prop where
 gi:GI S g M
 nd:∀i,i<5->NR S g M i (w.Zb i)
 Mf:∀l∈w.Zp,LR S g M l
 Wz:∀i,i<5->∀l∈(w.Zb i).Zg,LR S g M l
section
variable {S:Cm->Prop} {g:Gh} {M:Nat->YA} {w:Wd}
theorem TI.out(T:TI S g M w){i:Nat}{o:Out}{g':Gh}{M':Nat->YA}(h:TS S g M i o g' M'):TI S g' M' (w.out i o):=by
 unfold Wd.out;refine⟨h.gi,fun j hj=>?_,fun l hl=>?_,fun j hj l hl=>?_⟩
 .by_cases e:j=i
  .subst e;simpa using h.n
  .simp only[if_neg e];exact (T.nd j hj).ext h.e e
 .rcases Y.1 hl with hl|hl
  .exact (T.Mf l hl).ext h.e
  .exact h.ls l hl
 .by_cases e:j=i
  .subst e;simp only[if_true]at hl;exact h.Wz l hl
  .simp only[if_neg e]at hl;exact (T.Wz j hj l hl).ext h.e
theorem kP(T:TI S g M w){l:YH}(hl:LR S g M l)(ht:0<=l.to/\l.to<5):TI S g M (QL w l):=by
 unfold QL;split
 .refine⟨T.gi,fun i hi=>?_,T.Mf,fun i hi x hx=>?_⟩
  .unfold Wd.set;by_cases e:i=l.to.toNat
   .simp only[if_pos e];rw[e];exact (T.nd _ pA).box _
   .simp only[if_neg e];exact T.nd i hi
  .unfold Wd.set at hx;by_cases e:i=l.to.toNat
   .simp only[if_pos e]at hx;rcases Y.1 hx with hx|hx
    .exact T.Wz _ pA x hx
    .rw[aO.1 hx];exact hl
   .simp only[if_neg e]at hx;exact T.Wz i hi x hx
 .exact T
theorem ZeP:∀(ls:List YH) (w:Wd),TI S g M w->(∀l∈ls,LR S g M l/\0<=l.to/\l.to<5)->TI S g M (ls.foldl QL w):=by
 intro ls
 induction ls with
 | nil=>intro w T _;exact T
 | cons l ls ih=>intro w T h;exact ih _ (kP T (h l IQ).1 (h l IQ).2) (fun x hx=>h x (by simp[hx]))
theorem TI.Zgd(T:TI S g M w){fl:List YH}(h:∀l∈fl,l∈w.Zp):TI S g M { w with Zp:=fl }:=⟨T.gi,T.nd,fun l hl=>T.Mf l (h l hl),T.Wz⟩
theorem ZnJ(hC:(U C)<=100000){k:Nat}(W:WI C k w)(T:TI S g M w)(a:Ac)(hi:a.ZS<5)(hk:0<=a.Zf)(hS:∀now:Nat,a.Z3=1->YR a.data now=0->S (Xu a.data now)):
  ∃g' M',(∀j b s x,g.V j b s x->g'.V j b s x)/\TI S g' M' (act w a):=by
 have same:∀{v:Wd},TI S g M v->∃g' M',(∀j b s x,g.V j b s x->g'.V j b s x)/\TI S g' M' v:=fun h=>⟨g,M,fun _ _ _ _ h=>h,h⟩
 have N:=T.nd a.ZS hi;have NI:=W.nd a.ZS hi;unfold act;split
 .rename_i hk1;refine same ?_;unfold Jz;split
  .split
   .exact⟨T.gi,T.nd,T.Mf,T.Wz⟩
   .rename_i q;split
    .exact⟨T.gi,T.nd,T.Mf,T.Wz⟩
    .rw[Sz];have hx:=hS _ hk1 (by simpa using q);obtain⟨A,_,_⟩:=Zga N hx;have s1:(add (w.Zb a.ZS) (Xu a.data (w.Zb a.ZS).ZA.length)).Zg=(w.Zb a.ZS).Zg:=by unfold add;split<;>rfl
     refine T.out ⟨Ext.refl _ _ _,T.gi,?_,(fun l hl=>by cases hl),fun l hl=>?_⟩
     .unfold SW;simp only;split
      .exact A
      .exact⟨A.acc,A.m,⟨A.tape.idle,A.tape.busy,A.tape.down,A.tape.len⟩,fun p e=>(by have:=A.Zs p e;cases p<;>exact this),A.Zi,A.ZA,A.eh,fun r e=>by
        have R:=A.Zh r e;exact⟨R.ZS,R.may,R.ZI,R.pn,R.pr,R.safe,R.free,R.Xb⟩⟩
     .have s2:(SW (add (w.Zb a.ZS) (Xu a.data (w.Zb a.ZS).ZA.length)) (Xu a.data (w.Zb a.ZS).ZA.length)).Zg=(w.Zb a.ZS).Zg:=by
       unfold SW;split<;>exact s1
      exact T.Wz _ hi l (by rw[<-s2];exact hl)
  .exact T
 split
 .refine same ?_;rw[Sz];refine T.out ⟨Ext.refl _ _ _,T.gi,ZiI hi T.gi N NI,(fun l hl=>by cases hl),fun l hl=>?_⟩;have hl:l∈(lead (w.Zb a.ZS)).Zg:=hl;rw[(Za2 NI).2.1]at hl;exact T.Wz _ hi l hl
 split
 .obtain⟨g',M',h⟩:=ZiH hi T.gi N hC NI (fun l hl=>⟨W.Wz _ hi l hl,T.Wz _ hi l hl⟩);exact⟨g',M',h.e.v,T.out h⟩
 split
 .refine same ?_;unfold pick;split
  .exact T
  .rename_i l hl;have nC:l∈w.Zp:=List.mem_of_getElem? hl;have T2:=T.Zgd (fl:=w.Zp.eraseIdx (a.at'%w.Zp.length)) (fun x hx=>List.mem_of_mem_eraseIdx hx);have ht:=(W.Mf l nC).to;split
   .split
    .exact kP T (T.Mf l nC) ht
    .exact kP T2 (T.Mf l nC) ht
   .split
    .exact T
    .exact T2
 split
 .exact same (ZeP _ _ (T.Zgd (fl:=[]) (fun l hl=>by cases hl)) (fun l hl=>⟨T.Mf l hl,(W.Mf l hl).to⟩))
 split
 .obtain⟨g',M',h⟩:=ug T.gi N (T.Wz _ hi) hk;rw[Sz];exact⟨g',M',h.e.v,T.out h⟩
 .refine same ?_;rw[Sz];refine T.out ⟨Ext.refl _ _ _,T.gi,uh N,(fun l hl=>by cases hl),fun l hl=>?_⟩;rcases (Cu NI (i:=a.ZS)).2 with⟨q,_⟩|q
  .have hl:l∈(started a.ZS (w.Zb a.ZS)).Zg:=hl;rw[q]at hl;cases hl
  .have hl:l∈(started a.ZS (w.Zb a.ZS)).Zg:=hl;rw[q]at hl;exact T.Wz _ hi l hl
def gh0:Gh:=⟨fun _ _ _ _=>False,fun _ _ _=>False⟩
theorem Ei:TI S gh0 (fun _=>Jq) QT:=by
 refine⟨⟨fun _ _ _ _ h=>h.elim,fun _ _ _ _ h=>h.elim,fun _ _ _ _ h=>h.elim,fun _ _ _ h=>h.elim,fun _ _ _ h=>h.elim,fun _ _ _ h=>h.elim,fun _ _ _ h=>h.elim⟩,fun i hi=>?_,(fun l hl=>by cases hl),fun i hi l hl=>by cases hl⟩;exact Gq ⟨fun v hv=>(by cases hv),fun _ _ _ h=>h.elim⟩ rfl (Zbg i)
def eu(S:Cm->Prop)(C:List Cm)(a:Ac):Prop:=(a.ZS<5/\Uz a.data∈C)/\0<=a.Zf/\∀now:Nat,a.Z3=1->YR a.data now=0->S (Xu a.data now)
theorem eG(hC:(U C)<=100000):∀(l:List Ac) (k:Nat) (w:Wd) (g:Gh) (M:Nat->YA),WI C k w->TI S g M w->(∀a∈l,eu S C a) ->
  ∃g' M',(∀j b s x,g.V j b s x->g'.V j b s x)/\TI S g' M' (l.foldl act w)/\WI C (k+(U l)) (l.foldl act w):=by
 intro l
 induction l with
 | nil=>intro k w g M W T _;exact⟨g,M,fun _ _ _ _ h=>h,T,W⟩
 | cons a l ih=>
  intro k w g M W T hl;obtain⟨h1,h2,h3⟩:=hl a IQ;obtain⟨g1,M1,v1,T1⟩:=ZnJ hC W T a h1.1 h2 h3;obtain⟨g2,M2,v2,T2,W2⟩:=ih (k+1) (act w a) g1 M1 (Zf8 hC W a h1.1 h1.2) T1 (fun x hx=>hl x (by simp[hx]));refine⟨g2,M2,fun _ _ _ _ h=>v2 _ _ _ _ (v1 _ _ _ _ h),T2,?_⟩;rw[List.length_cons,show k+((U l)+1)=k+1+(U l) by omega];exact W2
theorem Ej(hC:(U C)<=100000)(l:List Ac)(hl:∀a∈l,eu S C a)(p q:Nat)(hpq:p<=q)(i j:Nat)(hi:i<5)(hj:j<5)(s:Nat)(x y:Cm)(hx:((TK (l.take p)).Zb i).ZA[s]? = Z x)(hy:((TK (l.take q)).Zb j).ZA[s]? = Z y):x=y:=by
 obtain⟨g1,M1,_,T1,W1⟩:=eG hC (l.take p) 0 QT gh0 (fun _=>Jq) (OS C) Ei (fun a ha=>hl a (bl ha));have e:l.take q=l.take p++(l.take q).drop p:=by
  have:=(List.take_append_drop p (l.take q)).symm
  rwa [List.take_take,Nat.min_eq_left hpq]at this
 obtain⟨g2,M2,v2,T2,_⟩:=eG hC ((l.take q).drop p) _ (TK (l.take p)) g1 M1 W1 T1 (fun a ha=>hl a (bl (List.mem_of_mem_drop ha)));have e2:TK (l.take q)=((l.take q).drop p).foldl act (TK (l.take p)):=by
  conv=>lhs;rw[e]
  unfold TK;rw[be]
 rw[<-e2]at T2;have c1:=(T1.nd i hi).ZA s x hx;have c2:=(T2.nd j hj).ZA s y hy;obtain⟨Q,b,hQ,hv⟩:=c1;exact Jr.one T2.gi ⟨Q,b,hQ,fun k hk=>v2 _ _ _ _ (hv k hk)⟩ c2
theorem Zbo(hC:(U C)<=100000)(l:List Ac)(hl:∀a∈l,eu S C a)(i:Nat)(hi:i<5)(x:Cm)(hx:x∈((TK l).Zb i).ZA):x=Oa\/S x:=by
 obtain⟨g1,M1,_,T1,W1⟩:=eG hC l 0 QT gh0 (fun _=>Jq) (OS C) Ei hl;obtain⟨s,hs,rfl⟩:=List.mem_iff_getElem.1 hx;have c1:=(T1.nd i hi).ZA s _ (a0 hs);obtain⟨b,hb⟩:=c1.ZY T1.gi;exact T1.gi.cmd _ _ _ hb
end
set_option maxRecDepth 100000
theorem Hq(h:∀x∈l,x.err=0)(hl:(U l)<=100000):S5 l=0:=by
 unfold S5;rw[if_neg pA];exact OR h
theorem kQ{A:List Raw}(hA:∀x∈A,x.err=0)(hl:(U A)<=100000)(p q i j:Nat)(hi:i<5)(hj:j<5)(s:Nat)(x y:Cm)(hx:((Xo (A.take p)).Zb i).ZA[s]? = Z x)(hy:((Xo (A.take q)).Zb j).ZA[s]? = Z y):x=y:=by
 obtain⟨tX,kF⟩:=ZL (A.map Raw.ac);obtain⟨C,hC⟩:∃C,C=A.map fun x=>Uz x.data:=⟨_,rfl⟩
 have vD:(U C)<=100000:=by rw[hC,a1];exact hl
 have ok:∀a∈tX,eu (fun _=>True) C a:=fun a ha=>by
  rw[kF]at ha;obtain⟨z,hz,rfl⟩:=am.1 ha;obtain⟨_,q2,_,q4,_⟩:=Eh (hA z hz);refine⟨⟨by unfold Raw.ac;simp only;omega,?_⟩,q4.1,fun _ _ _=>trivial⟩;rw[hC];exact am.2 ⟨z,hz,rfl⟩
 have e:∀p,Xo (A.take p)=TK (tX.take p):=fun p=>by unfold Xo;rw[List.map_take,kF]
 rw[e]at hx hy;rcases Nat.le_total p q with h|h
 .exact Ej vD tX ok p q h i j hi hj s x y hx hy
 .exact (Ej vD tX ok q p h j i hj hi s y x hy hx).symm
theorem oN{A:List Raw}(hA:∀x∈A,x.err=0)(hl:(U A)<=100000)(i:Nat)(hi:i<5):((Xo A).Zb i).ZA.length<=40:=by
 obtain⟨C,hC⟩:∃C,C=A.map fun x=>Uz x.data:=⟨_,rfl⟩
 have vD:(U C)<=100000:=by rw[hC,a1];exact hl
 have:=Za9 vD (A.map Raw.ac) 0 QT (OS C) (fun a ha=>by
  obtain⟨z,hz,rfl⟩:=am.1 ha;obtain⟨_,q2,_,_,_⟩:=Eh (hA z hz);refine⟨by unfold Raw.ac;simp only;omega,?_⟩;rw[hC];exact am.2 ⟨z,hz,rfl⟩)
 exact (this.nd i hi).Ii
def Jm(h0:Hp)(o:Ow)(g:Hp)(v:aD)(l:List Raw):Prop:=
 Kp (fun t=>t=.ZA 100) Nx h0 o g/\∃ys,Xh ys=l/\XB o (.ZA 100) 36 5 g v (U ys) (ZU We ys)/\∀y∈ys,Pv o g y.2 y.1.data
theorem Jm.nil(h0:Hp):Jm h0 Nx h0 (ae aa 0 0) []:=⟨Kp.refl (MM h0) _,[],rfl,XB.nil _ _ _ _ _,fun y hy=>by cases hy⟩
theorem Jm.ZP{h0:Hp}{o:Ow}{g:Hp}{v:aD}(A:Jm h0 o g v l):∃p c,v=ae p (U l) c/\(U l)<=c:=by
 obtain⟨_,ys,hr,O,_⟩:=A;obtain⟨p,c,h,hc⟩:=O.ZP;have:(U ys)=(U l):=by rw[<-hr];unfold Xh;simp
 rw[this]at h hc;exact⟨p,c,h,hc⟩
theorem Jm.Zo{h0:Hp}{o:Ow}{g g':Hp}{v:aD}(A:Jm h0 o g v l)(b:Zj g.size g g'):Jm h0 o g' v l:=by
 obtain⟨K,ys,hr,O,I⟩:=A;have k:Kp Wy o g o g':=ZX K.Yn b;exact⟨K.trans (Z0 k),ys,hr,O.Zf k (fun q=>q),fun y hy=>(I y hy).Zf k⟩
theorem Jm.done{h0:Hp}{o:Ow}{g:Hp}{v:aD}(A:Jm h0 o g v l):Zj h0.size h0 g/\RY v/\∃ys,Xh ys=l/\Ts We 5 g v ys/\∀y∈ys,Pv Nx g y.2 y.1.data:=by
 obtain⟨p,c,hv,hc⟩:=A.ZP;obtain⟨K,ys,hr,O,I⟩:=A;exact⟨At K,by rw[hv];exact hc,ys,hr,⟨O.sl⟩,fun y hy=>⟨⟨(I y hy).1.sl,(I y hy).1.fits,fun b hb=>⟨((I y hy).1.free b hb).1,rfl⟩⟩,(I y hy).2⟩⟩
theorem Zbp:∀(xs:List (Raw × aD)),(∀x∈xs,∃p n c,x.2=ae p n c)->(ZU We xs).all YE=true:=by
 intro xs
 induction xs with
 | nil=>intro _;rfl
 | cons x xs ih=>
  intro h;obtain⟨p,n,c,e⟩:=h x IQ;have h2:=ih (fun y hy=>h y (by simp[hy]));rw[show ZU We (x :: xs)=We x++ZU We xs from rfl,List.all_append,h2];unfold We;rw[e];rfl
section
variable {T:World} {K:aD->Hp->Prop} {ty:TypeId} {cb:Array Bool}
theorem Jm.PT{h0:Hp}{o:Ow}{g:Hp}{v:aD}(A:Jm h0 o g v l)(hl:(U l)<=1000000000)(X:Raw)(q:Option Addr)(cq:Nat)(im:Pv o g (ae q (U X.data) cq) X.data)(H:∀v' o' g',Jm h0 o' g' v' (l++[X])->Kp S3 o g o' g'->K v' g'):PZ a9 T .append #[27,27] ty cb [v,ae (Z ⟨g.size,0,aa⟩) 1 1] K (g.push (a5 #[al ab X.k,al ab X.n,al ab X.a,al ab X.b,ae q (U X.data) cq] 36)):=by
 obtain⟨K1,ys,hr,O,I⟩:=A;have yl:(U ys)=(U l):=by rw[<-hr];unfold Xh;simp
 obtain⟨g6,NN⟩:=ZL (g.push (a5 (F9 X.k X.n X.a X.b (ae q (U X.data) cq)).toArray 36):Hp);have k6:Kp Wy o g o g6:=by rw[NN];exact Yw K1.Yn _
 have x6:g6[g.size]? = Z (a5 (F9 X.k X.n X.a X.b (ae q (U X.data) cq)).toArray 36):=by rw[NN];exact Zc
 have src:Sl 5 g6 (ae (Z ⟨g.size,0,aa⟩) 1 1) 1 (F9 X.k X.n X.a X.b (ae q (U X.data) cq)):=⟨_,1,rfl,rfl,fun _=>⟨g.size,0,rfl,fun i hi=>by
  rw[Zn x6,YU,Nat.zero_add];exact a0 hi⟩⟩
 have O6:=O.Zf k6 (fun q=>q);show PZ a9 T .append #[27,27] ty cb [v,ae (Z ⟨g.size,0,aa⟩) 1 1] K (g.push (a5 (F9 X.k X.n X.a X.b (ae q (U X.data) cq)).toArray 36));rw[<-NN];refine Q8 (E:=36) (n:=5) (bytes:=56) (k:=1) Zfu bp Zla Zlc rfl Zlb O6 k6.Yn src rfl pA pA ?_;intro v7 o7 g7 O7 k7 _;have k7:Kp (fun u=>u=.ZA 100) o g6 o7 g7:=k7;refine H v7 o7 g7 ⟨(K1.trans (Z0 k6)).trans k7,ys++[(X,ae q (U X.data) cq)],?_,?_,fun y hy=>?_⟩ (YS ((Z0 k6).trans k7))
 .rw[<-hr];unfold Xh;simp only[a4,List.map_cons,List.map_nil]
 .have e:ZU We (ys++[(X,Value.slice q (U X.data) cq)])=ZU We ys++F9 X.k X.n X.a X.b (ae q (U X.data) cq):=by rw[Y6,Tu];rfl
  rw[e,ag];exact O7
 .rcases Y.1 hy with hy|hy
  .exact ((I y hy).Zf k6).Zf k7
  .rw[aO.1 hy];exact (im.Zf k6).Zf k7
theorem Jm.add{h0:Hp}{o:Ow}{g:Hp}{v:aD}(A:Jm h0 o g v l)(hl:(U l)<=1000000000)(k n a b:Int)(H:∀v' o' g',Jm h0 o' g' v' (l++[⟨k,n,a,b,[]⟩])->K v' g'):PZ a9 T .append #[27,27] ty cb [v,ae (Z ⟨g.size,0,aa⟩) 1 1] K (g.push (a5 #[al ab k,al ab n,al ab a,al ab b,ae aa 0 0] 36)):=
 A.PT hl ⟨k,n,a,b,[]⟩ aa 0 ⟨Im.nil _ 1 _ aa,fun x hx=>by cases hx⟩ (fun v' o' g' A' _=>H v' o' g' A')
theorem Jm.Zbq{h0:Hp}{o:Ow}{g:Hp}{v:aD}(A:Jm h0 o g v l)(hl:(U l)<=1000000000){u:aD}{xs:List (Raw × aD)}(hu:Ts We 5 g u xs)(hx:∀x∈xs,Pv Nx h0 x.2 x.1.data)(BT:(U xs)<=1000000000)(H:∀v' o' g',Jm h0 o' g' v' (l++Xh xs)->K v' g'):PZ a9 T .append #[27,27] ty cb [v,u] K g:=by
 obtain⟨K1,ys,hr,O,I⟩:=A;have yl:(U ys)=(U l):=by rw[<-hr];unfold Xh;simp
 refine Q8 (E:=36) (n:=5) (bytes:=56) (k:=(U xs)) Zfu bp Zla Zlc rfl Zlb O K1.Yn hu.sl ?_ pA pA ?_
 .exact Zbp xs (fun x hxm=>by
   obtain⟨p,c,e⟩:=(hx x hxm).1.ZP;exact⟨p,_,c,e⟩)
 intro v7 o7 g7 O7 k7 _;have k7:Kp (fun u=>u=.ZA 100) o g o7 g7:=k7;refine H v7 o7 g7 ⟨K1.trans k7,ys++xs,?_,?_,fun y hy=>?_⟩
 .rw[<-hr];unfold Xh;rw[a4]
 .rw[Y6,ag];exact O7
 .rcases Y.1 hy with hy|hy
  .exact (I y hy).Zf k7
  .exact (hx y hy).Zf (K1.trans k7)
end
def WX(n m:Nd):Prop:=m.up=n.up/\m.me=n.me/\∃e,m.ZA=n.ZA++e
theorem WX.refl(n:Nd):WX n n:=⟨rfl,rfl,[],IQ⟩
theorem WX.trans{a b c:Nd}(h1:WX a b)(h2:WX b c):WX a c:=by
 obtain⟨u1,m1,e1,l1⟩:=h1;obtain⟨u2,m2,e2,l2⟩:=h2;exact⟨by rw[u2,u1],by rw[m2,m1],e1++e2,by rw[l2,l1,aN]⟩
theorem WX.same{n m:Nd}(h1:m.up=n.up)(h2:m.me=n.me)(h3:m.ZA=n.ZA):WX n m:=⟨h1,h2,[],by rw[h3];simp⟩
theorem Av:∀(k:Nat) (n:Nd),WX n (Yg k n).1:=by
 intro k
 induction k with
 | zero=>intro n;exact .refl n
 | succ k ih=>
  intro n;unfold Yg;split
  .exact .refl n
  .rename_i x _;exact WX.trans (b:=J4 n x) ⟨rfl,rfl,[x],rfl⟩ (ih _)
theorem Ek(n:Nd)(s:Int)(x:Cm):WX n (Jl n s x).n:=by
 unfold Jl;exact WX.trans (b:=Jk n s x) (.same rfl rfl rfl) (Av _ _)
theorem MO(n:Nd)(l:YH):WX n (Xz n l):=by
 unfold Xz;split
 .exact .same rfl rfl rfl
 .exact .refl n
theorem Zbr(n:Nd)(x:Cm):WX n (add n x):=by
 unfold add;split
 .exact .refl n
 .exact .same rfl rfl rfl
theorem eH(n:Nd)(l:YH):WX n (Zw n l).n:=by
 unfold Zw;split
 .unfold YG
  repeat' split
  all_goals exact .same rfl rfl rfl
 split
 .unfold Ym;split
  .exact .refl n
  .rename_i r _;split
   .split
    .exact .same rfl rfl rfl
    .exact .refl n
   .split
    .exact .refl n
    .split
     .exact WX.trans (b:=TG n r l) (.same rfl rfl rfl) (Ek _ _ _)
     .exact .same rfl rfl rfl
 split
 .unfold asked
  repeat' split
  all_goals exact .same rfl rfl rfl
 split
 .exact Zbr n _
 split
 .unfold Qy;split
  .exact MO n l
  .exact MO n l
 split
 .exact Ek n _ _
 .exact MO n l
theorem El:∀(k:List YH) (n:Nd),WX n (ZB n k).n:=by
 intro k
 induction k with
 | nil=>intro n;unfold ZB;exact .same rfl rfl rfl
 | cons l k ih=>
  intro n;unfold ZB;split
  .exact .same rfl rfl rfl
  .exact WX.trans (b:={ n with Zg:=k }) (.same rfl rfl rfl) (WX.trans (eH _ l) (ih _))
theorem ui(n:Nd)(r:XE):WX n (JU n r).n:=by
 unfold JU;split
 .split
  .exact .refl n
  .exact .same rfl rfl rfl
 .split
  .exact .refl n
  .exact .same rfl rfl rfl
theorem kR(n:Nd):WX n (Zo n):=by
 unfold Zo;split
 .split
  .exact .same rfl rfl rfl
  .exact .refl n
 .exact .refl n
theorem kS(n:Nd):WX n (Z9 n).n:=by
 unfold Z9;split
 .exact ui _ _
 .split
  .exact .refl n
  .exact .refl n
theorem uj(n:Nd):WX n (Yq n).n:=by
 have h:=WX.trans (kR n) (kS (Zo n));unfold Yq;split
 .exact h
 .exact h.trans (.same rfl rfl rfl)
theorem eI(n:Nd)(p:Kv):WX n (YM (ZQ n) p).n:=by
 cases p<;>exact .same rfl rfl rfl
theorem Nz(n:Nd):WX n (step n).n:=by
 unfold step;split
 .split
  .exact eI n _
  .split
   .exact El _ n
   .exact (El _ n).trans (uj _)
 .exact .refl n
def Still(n m:Nd):Prop:=m.up=n.up/\m.me=n.me/\m.ZA=n.ZA
theorem Still.refl(n:Nd):Still n n:=⟨rfl,rfl,rfl⟩
theorem Still.trans{a b c:Nd}(h1:Still a b)(h2:Still b c):Still a c:=⟨by rw[h2.1,h1.1],by rw[h2.2.1,h1.2.1],by rw[h2.2.2,h1.2.2]⟩
theorem MP(w:Wd)(l:YH)(i:Nat):Still (w.Zb i) ((QL w l).Zb i):=by
 unfold QL;split
 .unfold Wd.set;by_cases e:i=l.to.toNat
  .simp only[if_pos e];rw[e];exact⟨rfl,rfl,rfl⟩
  .simp only[if_neg e];exact .refl _
 .exact .refl _
theorem eJ:∀(ls:List YH) (w:Wd) (i:Nat),Still (w.Zb i) ((ls.foldl QL w).Zb i):=by
 intro ls
 induction ls with
 | nil=>intro w i;exact .refl _
 | cons l ls ih=>intro w i;exact Still.trans (MP w l i) (ih _ i)
theorem uk(w:Wd)(l:YH):(QL w l).ZE=w.ZE/\(QL w l).Yy=w.Yy/\(QL w l).Zp=w.Zp:=by
 unfold QL;split
 .exact⟨rfl,rfl,rfl⟩
 .exact⟨rfl,rfl,rfl⟩
theorem kT:∀(ls:List YH) (w:Wd),(ls.foldl QL w).ZE=w.ZE/\(ls.foldl QL w).Yy=w.Yy/\(ls.foldl QL w).Zp=w.Zp:=by
 intro ls
 induction ls with
 | nil=>intro w;exact⟨rfl,rfl,rfl⟩
 | cons l ls ih=>
  intro w;obtain⟨h1,h2,h3⟩:=ih (QL w l);obtain⟨k1,k2,k3⟩:=uk w l;exact⟨by rw[a3,h1,k1],by rw[a3,h2,k2],by rw[a3,h3,k3]⟩
theorem Jv(w:Wd)(k:Nat)(n:Nd)(i:Nat):((w.set k n).Zb i)=if i=k then n else w.Zb i:=rfl
theorem Kl(w:Wd)(k:Nat)(o:Out)(i:Nat):((w.out k o).Zb i)=if i=k then o.n else w.Zb i:=rfl
theorem Aw(w:Wd)(k:Nat)(data:List Nat)(i:Nat):Still (w.Zb i) ((Jz w k data).Zb i):=by
 unfold Jz;split
 .split
  .exact .refl _
  .split
   .exact .refl _
   .rw[Jv];by_cases e:i=k
    .rw[if_pos e,e];unfold SW add
     repeat' split
     all_goals exact⟨rfl,rfl,rfl⟩
    .rw[if_neg e];exact .refl _
 .exact .refl _
theorem kU(w:Wd)(k:Nat)(c s:Bool)(i:Nat):Still (w.Zb i) ((pick w k c s).Zb i):=by
 unfold pick;split
 .exact .refl _
 .split
  .split
   .exact MP _ _ _
   .exact MP { w with Zp:=_ } _ _
  .split
   .exact .refl _
   .exact .refl _
theorem eK(w:Wd)(a:Ac)(i:Nat):
  (a.Z3=8/\a.ZS=i/\(act w a).Zb i=Xy i (w.Zb i) a.Zf) \/
  (¬(1<=a.Z3/\a.Z3<=8)/\a.ZS=i/\(act w a).Zb i=started i (w.Zb i)) \/
  (a.Z3=3/\a.ZS=i/\(w.Zb i).up=true/\WX (w.Zb i) ((act w a).Zb i)) \/
  Still (w.Zb i) ((act w a).Zb i):=by
 unfold act;split
 .exact .inr (.inr (.inr (Aw _ _ _ _)))
 split
 .refine .inr (.inr (.inr ?_));rw[Jv];by_cases e:i=a.ZS
  .rw[if_pos e,e];unfold lead;split
   .exact .refl _
   .exact⟨rfl,rfl,rfl⟩
  .rw[if_neg e];exact .refl _
 split
 .rename_i k;rw[Kl];by_cases e:i=a.ZS
  .rw[if_pos e,e]
   cases hu:(w.Zb a.ZS).up with
   | true=>exact .inr (.inr (.inl ⟨k,rfl,rfl,Nz _⟩))
   | false=>
    have:(step (w.Zb a.ZS)).n=w.Zb a.ZS:=by unfold step;rw[if_neg (by rw[hu];decide)]
    rw[this];exact .inr (.inr (.inr (.refl _)))
  .rw[if_neg e];exact .inr (.inr (.inr (.refl _)))
 split
 .exact .inr (.inr (.inr (kU _ _ _ _ _)))
 split
 .exact .inr (.inr (.inr (eJ w.Zp { w with Zp:=[] } i)))
 split
 .rename_i k;rw[Jv];by_cases e:i=a.ZS
  .rw[if_pos e,e];exact .inl ⟨k,rfl,rfl⟩
  .rw[if_neg e];exact .inr (.inr (.inr (.refl _)))
 .rename_i k1 k2 k3 k4 k5 k6;rw[Jv];by_cases e:i=a.ZS
  .rw[if_pos e,e];exact .inr (.inl ⟨pA,rfl,rfl⟩)
  .rw[if_neg e];exact .inr (.inr (.inr (.refl _)))
theorem Hr(i:Nat)(n:Nd):(n.up=true/\started i n=n)\/(n.up=false/\(started i n).up=true/\(started i n).ZA=[]):=by
 unfold started
 cases hu:n.up with
 | true=>exact .inl ⟨rfl,IQ⟩
 | false=>exact .inr ⟨rfl,rfl,rfl⟩
theorem Zbs(w:Wd)(a:Ac)(i:Nat)(h8:a.Z3≠8):((w.Zb i).up=true->((act w a).Zb i).up=true)/\(a.Z3=9->a.ZS=i->((act w a).Zb i).up=true):=by
 rcases eK w a i with⟨k,_,_⟩|⟨k,e,q⟩|⟨k,_,hu,q,_⟩|⟨q,_⟩
 .exact (h8 k).elim
 .rw[q];have:(started i (w.Zb i)).up=true:=by
   rcases Hr i (w.Zb i) with⟨q1,q⟩|⟨_,q,_⟩
   .rw[q];exact q1
   .exact q
  exact⟨fun _=>this,fun _ _=>this⟩
 .rw[q];exact⟨fun h=>h,fun h=>by omega⟩
 .rw[q];refine⟨fun h=>h,fun h9 e=>?_⟩;have:(act w a).Zb i=started i (w.Zb i):=by
   unfold act;rw[if_neg pA,if_neg pA,if_neg pA,if_neg pA,if_neg pA,if_neg pA,Jv,if_pos e.symm,e]
  rw[<-q,this];rcases Hr i (w.Zb i) with⟨q1,q⟩|⟨_,q,_⟩
  .rw[q];exact q1
  .exact q
theorem ZiJ(i:Nat):∀(l:List Ac) (w:Wd),(∀a∈l,a.Z3≠8)->((w.Zb i).up=true\/∃a∈l,a.Z3=9/\a.ZS=i)->((l.foldl act w).Zb i).up=true:=by
 intro l
 induction l with
 | nil=>
  intro w _ h;rcases h with h|⟨a,ha,_⟩
  .exact h
  .cases ha
 | cons a l ih=>
  intro w hl h;obtain⟨u1,u2⟩:=Zbs w a i (hl a IQ);refine ih _ (fun x hx=>hl x (by simp[hx])) ?_;rcases h with h|⟨b,hb,k,e⟩
  .exact .inl (u1 h)
  .rcases a7.1 hb with rfl|hb
   .exact .inl (u2 k e)
   .exact .inr ⟨b,hb,k,e⟩
def Two(x y:Nat)(k:Int):Prop:=k=x\/k=y
section
variable {x y:Nat} {n:Nd}
theorem kV(n:Nd):(Yq n).n.Zg=n.Zg:=by
 have h1:(Zo n).Zg=n.Zg:=by
  unfold Zo
  repeat' split
  all_goals rfl
 have h2:∀m:Nd,(Z9 m).n.Zg=m.Zg:=fun m=>by
  unfold Z9 JU
  repeat' split
  all_goals rfl
 unfold Yq;split
 .rw[h2,h1]
 .show (Z9 (Zo n)).n.Zg=n.Zg;rw[h2,h1]
theorem Km(n:Nd)(p:Kv):(YM (ZQ n) p).n.Zg=n.Zg:=by cases p<;>rfl
end
section
variable {x y:Nat} {w:Wd}
end
theorem kW{tc tr tu k c s n v now Ax:Int}(h:Rv tc tr tu k c s n v Ax=0)(h0:0<=now)(hn:now<=Ax):Rv tc tr tu k c s n v now=0:=by
 unfold Rv at *;by_cases c1:JP tc tr tu≠0
 .rw[if_pos c1]at h;exact (c1 h).elim
 rw[if_neg c1]at h ⊢;by_cases c2:YC k c s n v≠0
 .rw[if_pos c2]at h;exact (c2 h).elim
 rw[if_neg c2]at h ⊢;by_cases c3:¬KU k.toNat tr.toNat\/tc≠c
 .rw[if_pos c3]at h;cases h
 rw[if_neg c3]at h ⊢;by_cases c4:Ax<0\/tu<Ax
 .rw[if_pos c4]at h;cases h
 rw[if_neg pA]
structure ZnK(rc:List Nat):Prop where
 len:(U rc)≠0
 key:Qn (rc.getD 0 0:Nat)=0
 take:Wl (UL (rc.getD 0 0)) 0 0 JS (rc.drop 1)=0
 plain:(Jg rc).length=42
 prv:QS Wm ((Jg rc).take 22)=0
 dec:QA ((Jg rc).drop 22)=0
 Zq:¬(XD ((Jg rc).drop 22) 0≠0/\XD ((Jg rc).drop 22) 1≠(rc.getD 0 0:Nat))
theorem Gs(rc:List Nat)(now:Int):YR rc now=0↔ZnK rc/\Ai (Jg rc) now=0:=by
 unfold YR Cd dm dk dj nG
 constructor
 .intro h;by_cases c1:(U rc)=0
  .rw[if_pos c1]at h;cases h
  rw[if_neg c1]at h;by_cases c2:Qn (rc.getD 0 0:Nat)≠0
  .rw[if_pos c2]at h;exact (c2 h).elim
  rw[if_neg c2]at h;by_cases c3:Wl (UL (rc.getD 0 0)) 0 0 JS (rc.drop 1)≠0
  .rw[if_pos c3]at h;exact (c3 h).elim
  rw[if_neg c3]at h;by_cases c4:(Jg rc).length≠42
  .rw[if_pos c4]at h;cases h
  rw[if_neg c4]at h;by_cases c5:QS Wm ((Jg rc).take 22)≠0
  .rw[if_pos c5]at h;exact (c5 h).elim
  rw[if_neg c5]at h;by_cases c6:QA ((Jg rc).drop 22)≠0
  .rw[if_pos c6]at h;exact (c6 h).elim
  rw[if_neg c6]at h;by_cases c7:XD ((Jg rc).drop 22) 0≠0/\XD ((Jg rc).drop 22) 1≠(rc.getD 0 0:Nat)
  .rw[if_pos c7]at h;cases h
  rw[if_neg c7]at h;exact⟨⟨c1,pA,pA,pA,pA,pA,c7⟩,h⟩
 .rintro⟨o,h⟩;rw[if_neg o.len,if_neg (fun q=>q o.key),if_neg (fun q=>q o.take),if_neg (fun q=>q o.plain),if_neg (fun q=>q o.prv),if_neg (fun q=>q o.dec),if_neg o.Zq];exact h
theorem Ht{d:List Nat}{now Ax:Int}(h:YR d Ax=0)(h0:0<=now)(hn:now<=Ax):YR d now=0/\Xu d now=Xu d Ax:=by
 have h1:YR d now=0:=by
  obtain⟨o,a⟩:=(Gs d Ax).1 h;exact (Gs d now).2 ⟨o,kW a h0 hn⟩
 refine⟨h1,?_⟩;unfold Xu;rw[if_pos h,if_pos h1]
theorem Je{cs:List aD}{j:Nat}(v:aD)(i:Nat)(h:i≠j):ci (cs.set j v) i=ci cs i:=by
 unfold ci;rw[YU,YU,List.getElem?_set_ne (fun e=>h e.symm)]
theorem ZeQ{cs:List aD}(h:Xm cs=false):(∀i,i<8->Mx cs i=false)/\∀i,i<8->My cs i=false:=by
 refine⟨fun i hi=>?_,fun i hi=>?_⟩
 .cases e:Mx cs i with
  | false=>rfl
  | true=>rw[Qt i hi (.inl e)]at h;cases h
 .cases e:My cs i with
  | false=>rfl
  | true=>rw[Qt i hi (.inr e)]at h;cases h
theorem Ip{cs:List aD}(hl:(U cs)=40)(hb:Xm cs=false)(k c s n v:Nat)(hk:k<=3)(hc:c<=7)(hs:s<=1048576)(hn:n<=7)(hv:v<=1073741824):Xm (Qb cs k c s n v).cells=false:=by
 obtain⟨h1,h2⟩:=ZeQ hb;unfold Qb;split
 .exact hb
 split
 .exact hb
 split
 .exact hb
 split
 .exact hb
 have hal:(Ur cs k c n v).1.length=40:=by rw[OI,hl]
 have hai:∀j,8<=j->j<32->ci (Ur cs k c n v).1 j=ci cs j:=fun j q1 q2=>Aa cs k c n v hn j q1 q2;have hav:∀j,j<8->Mx (Ur cs k c n v).1 j=false:=fun j hj=>by
  unfold Ur;split
  .by_cases e:j=n
   .unfold Mx;rw[e,Ud pA];simp;omega
   .have:=h1 j hj;unfold Mx at this ⊢;rw[Je _ _ e];exact this
  .split
   .exact h1 j hj
   .have:=h1 j hj;unfold Mx at this ⊢;rw[Je _ _ pA];exact this
 obtain⟨A,hA⟩:=ZL ((Ur cs k c n v).1);rw[<-hA]at hal hai hav ⊢;refine Lx (fun i hi=>?_) (fun i hi=>?_)
 .have:=hav i hi;unfold Mx at this ⊢;rw[Je _ _ pA,Je _ _ pA,Je _ _ pA];exact this
 .have:=h2 i hi;unfold My at this ⊢;by_cases e:i=c
  .subst e;have e1:ci ((((A.set (8+i) (al ab ((s:Int)+1))).set (16+i*2) (al ab 0)).set (16+i*2+1) (al ab (Ur cs k i n v).2))) (8+i)=(s:Int)+1:=by
    rw[Je _ _ pA,Je _ _ pA,Ud pA]
   rw[e1];refine decide_eq_false ?_;omega
  .rw[Je _ _ pA,Je _ _ pA,Je _ _ pA,Je _ _ pA,Je _ _ pA,Je _ _ pA,Je _ _ pA,Je _ _ pA,Je _ _ pA,hai _ pA pA,hai _ pA pA,hai _ pA pA];exact this
theorem kX:∀(l:List Cm) (st:AU),I9 st->Xm st.cs=false->(∀x∈l,x.err=0)->(T9 st l).1=0:=by
 intro l
 induction l with
 | nil=>intro st _ _ _;rfl
 | cons x l ih=>
  intro st ok hb hl;have he:YC x.k x.c x.s x.n x.v=0:=hl x IQ;have h0:UU st.cs x=0:=by
   unfold UU OF;rw[hb,if_neg aaa];exact he
  rw[Np h0];refine ih _ (L1 ok h0).1 ?_ (fun y hy=>hl y (by simp[hy]));obtain⟨k,c,s,n,v,e1,e2,e3,e4,e5,y1,y2,y3,y4,y5⟩:=YY he;show Xm (YT st.cs x).cells=false;unfold YT;rw[e1,e2,e3,e4,e5];exact Ip (Ys ok.fit) hb _ _ _ _ _ y1 y2 y3 y4 y5
theorem SC{l:List Cm}(h:∀x∈l,x.err=0):VF l=0:=kX l KX L0 rfl h
theorem Zbt(key:List Nat)(k:Nat)(ZD data:List Nat):Wk key k ZD (Wk key k ZD data)=data:=by
 have hl:(Wk key k ZD data).length=(U data):=JC _ _ _ _;refine List.ext_getElem (by rw[JC,hl]) fun i h1 h2=>?_;have e:(Wk key k ZD data).getD i 0=bK key k ZD data i:=by
  unfold Wk;rw[bd,bf,bn h2];rfl
 have e2:data.getD i 0=data[i]:=by rw[bd,a0 h2];rfl
 have e3:(Wk key k ZD (Wk key k ZD data))[i]=bK key k ZD (Wk key k ZD data) i:=by
  have:(Wk key k ZD (Wk key k ZD data))[i]? = Z (bK key k ZD (Wk key k ZD data) i):=by
   conv=>lhs;unfold Wk
   rw[bf];have:(bo (List.map (bK key k ZD data) (bo (U data))).length)[i]? = Z i:=by
    rw[bn (by rw[a1,List.length_range];exact h2)]
   rw[this];rfl
  rw[a0 h1]at this;exact Option.some.inj this
 rw[e3];unfold bK at e ⊢;rw[e,e2,Nat.xor_assoc,Nat.xor_self,Nat.xor_zero]
theorem Cz(n:Nat)(hn:n<4294967296)(l:List Nat):VD (YJ n++l)=n:=by
 unfold VD YJ;simp only[bw,List.getD_cons_zero,List.getD_cons_succ];omega
theorem ul(kl:List Nat)(n:Nat)(hn:n<4294967296)(plain:List Nat):D9 kl (TF kl n plain)=plain:=by
 have hd:(TF kl n plain).drop 4=Ru kl (XT (YJ n)) (YJ n) plain:=by
  unfold TF;rw[List.drop_append_of_le_length (by show 4<=4;omega),show (YJ n).drop 4=[] from rfl,bb]
 unfold D9;rw[hd,show VD (TF kl n plain)=n from Cz n hn _];unfold np Ru;have ht:(QJ kl (XT (YJ n)) (YJ n) (Wk kl 1 (XT (YJ n)) plain)).length=16:=Su _ _;rw[ag,ht,Nat.add_sub_cancel,List.take_left];exact Zbt _ _ _ _
theorem um(key:List Nat)(c r u:Nat)(hu:u<4294967296):XH (Ry key c r u) 2=u:=by
 have:XH (Ry key c r u) 2=u/16777216%256*16777216+u/65536%256*65536+u/256%256*256+u%256:=by simp[XH,Ry,cV,Xq]
 rw[this];exact RJ hu
def UX(n:Nat):Raw:=⟨9,n,0,0,[]⟩
def Wq(n:Nat):Raw:=⟨3,n,0,0,[]⟩
def TO(k:Nat):List Raw:=(bo k).map Wq
def XY(k:Nat):List Raw:=(bo k).map UX
def S7:List Raw:=TO 5++[dY]
def Uv(k:Nat):List Raw:=(List.replicate k S7).flatten
def JM(l:List Raw)(many:Nat):List Raw:=(l++XY 5)++Uv many
theorem eQ(k:Nat):TO (k+1)=TO k++[Wq k]:=by unfold TO;rw[bA,a4];rfl
theorem Ay(k:Nat):XY (k+1)=XY k++[UX k]:=by unfold XY;rw[bA,a4];rfl
theorem MQ(k:Nat):Uv (k+1)=Uv k++S7:=by
 unfold Uv;rw[List.replicate_succ',List.flatten_append];simp
theorem Em(k:Nat):(TO k).length=k:=by unfold TO;simp
theorem OU(k:Nat):(XY k).length=k:=by unfold XY;simp
theorem CA(k:Nat):(Uv k).length=6*k:=by
 induction k with
 | zero=>rfl
 | succ k ih=>rw[MQ,ag,ih];unfold S7;rw[ag,Em];simp;omega
theorem SD(l:List Raw)(k:Nat):(JM l k).length=(U l)+5+6*k:=by
 unfold JM;rw[ag,ag,OU,CA]
theorem Pz{k:Nat}{x:Raw}(h:x∈XY k):∃n,n<k/\x=UX n:=by
 unfold XY at h;obtain⟨n,hn,rfl⟩:=am.1 h;exact⟨n,a8.1 hn,rfl⟩
theorem CD{k:Nat}{x:Raw}(h:x∈TO k):∃n,n<k/\x=Wq n:=by
 unfold TO at h;obtain⟨n,hn,rfl⟩:=am.1 h;exact⟨n,a8.1 hn,rfl⟩
theorem Kn{k:Nat}{x:Raw}(h:x∈Uv k):(∃n,n<5/\x=Wq n)\/x=dY:=by
 unfold Uv at h;obtain⟨l,hl,hx⟩:=bg.1 h;rw[(List.mem_replicate.1 hl).2]at hx;unfold S7 at hx;rcases Y.1 hx with hx|hx
 .exact .inl (CD hx)
 .exact .inr (aO.1 hx)
theorem kY{k:Nat}{x:Raw}(h:x∈JM l k):x∈l\/(∃n,n<5/\x=UX n)\/(∃n,n<5/\x=Wq n)\/x=dY:=by
 unfold JM at h;rcases Y.1 h with h|h
 .rcases Y.1 h with h|h
  .exact .inl h
  .exact .inr (.inl (Pz h))
 .exact .inr (.inr (Kn h))
theorem uo:(∀n,n<5->(UX n).err=0)/\(∀n,n<5->(Wq n).err=0)/\dY.err=0:=aaa
theorem En(h:∀x∈l,x.err=0)(k:Nat):∀x∈JM l k,x.err=0:=fun x hx=>by
 obtain⟨e1,e2,e3⟩:=uo;rcases kY hx with hx|⟨n,hn,rfl⟩|⟨n,hn,rfl⟩|rfl
 .exact h x hx
 .exact e1 n hn
 .exact e2 n hn
 .exact e3
theorem CE(l:List Raw)(k i:Nat)(hi:i<5):((Xo (JM l k)).Zb i).up=true:=by
 have e:Xo (JM l k)=((XY 5++Uv k).map Raw.ac).foldl act (Xo l):=by
  unfold Xo TK JM;rw[aN,a4,be]
 rw[e];refine ZiJ i _ _ (fun a ha=>?_) (.inr ⟨(UX i).ac,am.2 ⟨UX i,Y.2 (.inl ?_),rfl⟩,rfl,?_⟩)
 .obtain⟨x,hx,rfl⟩:=am.1 ha;rcases Y.1 hx with hx|hx
  .obtain⟨n,_,rfl⟩:=Pz hx;show (9:Int)≠8;decide
  .rcases Kn hx with⟨n,_,rfl⟩|rfl
   .show (3:Int)≠8;decide
   .show (7:Int)≠8;decide
 .unfold XY;exact am.2 ⟨i,a8.2 hi,rfl⟩
 .show ((i:Nat):Int).toNat=i;omega
theorem Zbu{A:List Raw}(hA:∀x∈A,x.err=0){S:Cm->Prop}(hS:∀x∈A,x.k=1->∀now:Nat,YR x.data now=0->S (Xu x.data now)):
  ∀a∈A.map Raw.ac,eu S (A.map fun x=>Uz x.data) a:=fun a ha=>by
 obtain⟨z,hz,rfl⟩:=am.1 ha;obtain⟨_,q2,_,q4,_⟩:=Eh (hA z hz);exact⟨⟨by unfold Raw.ac;simp only;omega,am.2 ⟨z,hz,rfl⟩⟩,q4.1,fun now hk h=>hS z hz hk now h⟩
theorem CF{A:List Raw}(hA:∀x∈A,x.err=0)(hl:(U A)<=100000){i:Nat}(hi:i<5){x:Cm}(hx:x∈((Xo A).Zb i).ZA):x=Oa\/∃a∈A,a.k=1/\YR a.data 0=0/\x=Xu a.data 0:=by
 have ok:=Zbu hA (S:=fun x=>∃a∈A,a.k=1/\YR a.data 0=0/\x=Xu a.data 0) (fun z hz hk now h=>by
  obtain⟨q1,q2⟩:=Ht h (now:=0) pA pA;exact⟨z,hz,hk,q1,q2.symm⟩)
 exact Zbo (by rw[a1];exact hl) (A.map Raw.ac) ok i hi x hx
theorem oP{rc:List Nat}{now:Int}(h:YR rc now=0):(Xu rc now).err=0:=by
 obtain⟨o,_⟩:=(Gs rc now).1 h;have hd:=o.dec;unfold Xu;rw[if_pos h];unfold JZ.err;simp only;unfold QA at hd;rw[if_pos (by rw[List.length_drop,o.plain])]at hd;exact hd
theorem ZeR{α β:Type}{R:α->β->Prop}{l:List α}{k:List β}(s:aT R l k):∀(i:Nat) (h1:i<(U l)) (h2:i<(U k)),R l[i] k[i]:=by
 induction s with
 | nil=>intro i h1;cases h1
 | cons a _ ih=>
  intro i h1 h2
  cases i with
  | zero=>exact a
  | succ i=>exact ih i (by simpa using h1) (by simpa using h2)
def ZnL(w:Wd):List (List Cm):=[(w.Zb 0).ZA,(w.Zb 1).ZA,(w.Zb 2).ZA,(w.Zb 3).ZA,(w.Zb 4).ZA]
theorem uq(w:Wd)(i:Nat)(hi:i<5):(ZnL w)[i]'hi=(w.Zb i).ZA:=by
 match i,hi with
 | 0,_=>rfl
 | 1,_=>rfl
 | 2,_=>rfl
 | 3,_=>rfl
 | 4,_=>rfl
theorem kD.ZA{h:Hp}{R:List aD}{w:Wd}{lv tv:aD}{vs:List aD}(s:kD h R w lv tv vs):∃b o c,lv=ae (Z ⟨b,o,aa⟩) 5 c/\b<h.size/\∀n,n<5->∃x,hc h ⟨b,o+n,aa⟩=Z x/\Ts JZ.C 5 h x (w.Zb n).ZA:=by
 have vl:(U vs)=5:=oE s.each;obtain⟨p,c,rfl,XL⟩:=s.Znz.open (n:=1) (enc:=fun v=>[v]) (fun _=>rfl) (show (1:Nat)≠0 by decide);obtain⟨b,o,rfl,hb,hh⟩:=XL (by intro e;rw[e]at vl;cases vl);refine⟨b,o,c,by rw[vl],hb,fun n hn=>⟨vs[n],?_,?_⟩⟩
 .have:=hh n pA;have:=this.hc (i:=0) rfl;rw[Nat.mul_one]at this;exact this
 .have:=ZeR s.each n pA hn;rw[show ([(w.Zb 0).ZA,(w.Zb 1).ZA,(w.Zb 2).ZA,(w.Zb 3).ZA,(w.Zb 4).ZA]:List (List Cm))[n]'hn=(w.Zb n).ZA from uq w n hn]at this;exact this
set_option maxHeartbeats 4000000 in
theorem Eo(T:World)(h:Hp)(v:aD)(xs:List (Raw × aD))(many:Nat)(hv:Ts We 5 h v xs)(hx:∀x∈xs,Pv Nx h x.2 x.1.data)(BT:(U xs)<=1000000)(hm:many<=1000000):
  Zd a9 T 20 #[v,al ab many] h fun v' h'=>∃o,Jm h o h' v' (JM (Xh xs) many):=by
 have rl:(Xh xs).length=(U xs):=by unfold Xh;simp
 refine Zd.XS [_,_] Tryz.func20 ?_;simp -implicitDefEqProofs only[go_sem];refine (Jm.nil h).Zbq IQ hv hx pA ?_;intro v1 o1 g1 A1;rw[bb]at A1;simp -implicitDefEqProofs only[go_sem];refine VS.Yk (fun F g=>F 1=al ab many/\∃(n:Nat) (o:Ow),n<=5/\F 6=al ab n/\Jm h o g (F 5) (Xh xs++XY n))
  (fun F _=>5-(vi (F 6)).toNat) rfl ⟨rfl,0,o1,pA,rfl,by rw[show XY 0=[] from rfl,bc];exact A1⟩ ?_
 rintro F2 g2 ⟨f1,n,o2,hn,f6,A2⟩;obtain⟨p2,c2,f5,_⟩:=A2.ZP;by_cases ZT:n<5
 .have Z7:(n:Int)<5:=pA;rw[f5]at A2;simp -implicitDefEqProofs only[go_sem,f1,f5,f6,Z7];refine A2.add (by rw[ag,OU];omega) 9 n 0 0 ?_;intro v3 o3 g3 A3;simp -implicitDefEqProofs only[go_sem,f6];unfold XN;refine⟨⟨f1,n+1,o3,ZT,rfl,?_⟩,?_⟩
  .rw[Ay,<-aN];exact A3
  .simp only[vi,Zr,↓reduceIte,f6];omega
 have Xv:¬(n:Int)<5:=pA;obtain rfl:n=5:=pA;simp -implicitDefEqProofs only[go_sem,f1,f6];refine VS.Yk (fun F g=>F 1=al ab many/\∃(i:Nat) (o:Ow),i<=many/\F 7=al ab i/\Jm h o g (F 5) ((Xh xs++XY 5)++Uv i))
  (fun F _=>many-(vi (F 7)).toNat) rfl ⟨f1,0,o2,pA,rfl,by rw[show Uv 0=[] from rfl,bc];exact A2⟩ ?_
 clear f1 f5 f6 A2;rintro F3 g3 ⟨f1,i,o3,hi,f7,A3⟩;by_cases ZT:i<many
 .have Z7:(i:Int)<many:=pA;simp -implicitDefEqProofs only[go_sem,f1,f7,Z7];refine VS.Yk (fun F g=>(F 1=al ab many/\F 7=al ab i)/\∃(n:Nat) (o:Ow),n<=5/\F 8=al ab n/\Jm h o g (F 5) (((Xh xs++XY 5)++Uv i)++TO n))
   (fun F _=>5-(vi (F 8)).toNat) rfl ⟨⟨f1,f7⟩,0,o3,pA,rfl,by rw[show TO 0=[] from rfl,bc];exact A3⟩ ?_
  clear f1 f7 A3;rintro F4 g4 ⟨⟨f1,f7⟩,n,o4,hn,f8,A4⟩;obtain⟨p4,c4,f5,_⟩:=A4.ZP;rw[f5]at A4;have hlen:(((Xh xs++XY 5)++Uv i)++TO n).length<=100000000:=by
   rw[ag,ag,ag,OU,CA,Em];omega
  by_cases hn5:n<5
  .have ZnM:(n:Int)<5:=pA;simp -implicitDefEqProofs only[go_sem,f1,f5,f7,f8,ZnM];refine A4.add pA 3 n 0 0 ?_;intro v5 o5 g5 A5;simp -implicitDefEqProofs only[go_sem,f8];unfold XN;refine⟨⟨⟨f1,f7⟩,n+1,o5,hn5,rfl,?_⟩,?_⟩
   .rw[eQ,<-aN];exact A5
   .simp only[vi,Zr,↓reduceIte,f8];omega
  .have ZnM:¬(n:Int)<5:=pA;obtain rfl:n=5:=pA;simp -implicitDefEqProofs only[go_sem,f1,f5,f7,f8];refine A4.add pA 7 0 0 0 ?_;intro v5 o5 g5 A5;simp -implicitDefEqProofs only[go_sem,f7];unfold XN;refine⟨⟨f1,i+1,o5,ZT,rfl,?_⟩,?_⟩
   .rw[MQ];unfold S7;rw[<-aN,<-aN];exact A5
   .simp only[vi,Zr,↓reduceIte,f7];omega
 .have Xv:¬(i:Int)<many:=pA;obtain rfl:i=many:=pA;obtain⟨p3,c3,f5,_⟩:=A3.ZP;simp -implicitDefEqProofs only[go_sem,f1,f5,f7,Xv];rw[f5]at A3;exact⟨_,A3⟩
theorem ur(T:World)(h:Hp)(v:aD)(xs:List (Raw × aD))(many:Nat)(hv:Ts We 5 h v xs)(hx:∀x∈xs,Pv Nx h x.2 x.1.data)(BT:(U xs)<=1000000)(hm:many<=1000000):
  Zd a9 T 20 #[v,al ab many] h fun v' h'=>Zj h.size h h'/\RY v'/\∃ys,Xh ys=JM (Xh xs) many/\Ts We 5 h' v' ys/\∀y∈ys,Pv Nx h' y.2 y.1.data:=
 (Eo T h v xs many hv hx BT hm).mono fun v' h' ⟨_,A⟩=>A.done
def TQ(w:Wd):Nat->List Cm
 | 0=>[]
 | n+1=>if (TQ w n).length<(w.Zb n).ZA.length then (w.Zb n).ZA else TQ w n
def gn(w:Wd):List Cm:=TQ w 5
theorem ut(w:Wd):∀n,TQ w n=[]\/∃i,i<n/\TQ w n=(w.Zb i).ZA:=by
 intro n
 induction n with
 | zero=>exact .inl rfl
 | succ n ih=>
  unfold TQ;split
  .exact .inr ⟨n,pA,rfl⟩
  .rcases ih with h|⟨i,hi,h⟩
   .exact .inl h
   .exact .inr ⟨i,pA,h⟩
theorem Ko(w:Wd):gn w=[]\/∃i,i<5/\gn w=(w.Zb i).ZA:=ut w 5
theorem Zbv(w:Wd):∀n i,i<n->(w.Zb i).ZA.length<=(TQ w n).length:=by
 intro n
 induction n with
 | zero=>intro i h;omega
 | succ n ih=>
  intro i hi;unfold TQ;split
  .rename_i q;by_cases e:i=n
   .rw[e];exact ba _
   .have:=ih i pA;omega
  .rename_i q;by_cases e:i=n
   .rw[e];omega
   .exact ih i pA
structure ZwT(R:List aD):Prop where
 len:(U R)=13
 one:R.all YE=true
 put:Xd [Value.int ab 0,.bool false,.bool false,.bool false,.bool false,.bool false,ae aa 0 0,al ab 0,al ab 0,al ab 0,al ab 0,al ab 0,ae aa 0 0] 0 R=R
 le:(U R)<=13
 take:R.take 13=R
theorem kD.ok{h:Hp}{w:Wd}{lv tv:aD}{vs:List aD}(ra:kD h (gm w lv tv) w lv tv vs):ZwT (gm w lv tv)/\(∃b o c,lv=ae (Z ⟨b,o,aa⟩) 5 c)/\∃p c,tv=ae p w.ZE.length c:=by
 obtain⟨b,o,c,hl,_,_⟩:=ra.ZA;obtain⟨pt,ct,ht,_⟩:=ra.ZE.open (n:=5) (enc:=FQ) (fun _=>rfl) (show (5:Nat)≠0 by decide);subst hl;subst ht;exact⟨⟨rfl,rfl,ZW rfl,ba 13,rfl⟩,⟨b,o,c,rfl⟩,pt,ct,rfl⟩
theorem Ep(T:World)(h:Hp)(w:Wd)(lv tv:aD)(vs:List aD)(ra:kD h (gm w lv tv) w lv tv vs):
  Zd a9 T 10 #[.agg (gm w lv tv).toArray] h fun v' h'=>Ts JZ.C 5 h' v' (gn w)/\Zj h.size h h':=by
 obtain⟨b,o,c,rfl,hb,hx⟩:=ra.ZA;obtain⟨R,hR⟩:=ZL (gm w (ae (Z ⟨b,o,aa⟩) 5 c) tv);rw[<-hR];refine Zd.XS [_] Tryz.func10 ?_;obtain⟨h1,Xp⟩:=ZL (h.push (a5 R.toArray 42):Hp);have e1:=Xp.symm;have b1:Zj h.size h h1:=by rw[Xp];exact (Zj.refl _ _).add _
 have y1:h1[h.size]? = Z (a5 R.toArray 42):=by rw[Xp];exact Zc
 have r6:hc h1 ⟨h.size,6,aa⟩=Z (ae (Z ⟨b,o,aa⟩) 5 c):=by rw[Zn y1,hR];rfl
 have ly:=Za y1;simp -implicitDefEqProofs only[go_sem,e1];refine VS.Yk (fun F g=>g=h1/\F 1=.pointer (Z ⟨h.size,0,aa⟩)/\∃n:Nat,n<=5/\F 4=al ab n/\Ts JZ.C 5 h1 (F 3) (TQ w n))
  (fun F _=>5-(vi (F 4)).toNat) rfl ⟨rfl,rfl,0,pA,rfl,⟨(UO.nil 0 0 5 h1).sl⟩⟩ ?_
 rintro F2 g2 ⟨rfl,f1,n,hn,f4,t3⟩;obtain⟨p3,c3,f3,_⟩:=Qp t3;by_cases ZT:n<5
 .have Z7:(n:Int)<5:=pA;obtain⟨x,rx,tx⟩:=hx n ZT;obtain⟨px,cx,rfl,_⟩:=Qp tx;have rx2:hc g2 ⟨b,o+n,aa⟩=Z (ae px (w.Zb n).ZA.length cx):=by rw[b1.hc (by exact hb)];exact rx
  have tx2:=tx.Yz b1;by_cases hgt:((w.Zb n).ZA.length:Int)>(TQ w n).length
  .simp -implicitDefEqProofs only[go_sem,f1,f3,f4,r6,Z7,rx2,hgt];unfold XN;refine⟨⟨rfl,f1,n+1,ZT,rfl,?_⟩,?_⟩
   .have e:TQ w (n+1)=(w.Zb n).ZA:=by rw[TQ,if_pos pA]
    rw[e];exact tx2
   .simp only[vi,Zr,↓reduceIte,f4];omega
  .simp -implicitDefEqProofs only[go_sem,f1,f3,f4,r6,Z7,rx2,hgt];unfold XN;refine⟨⟨rfl,f1,n+1,ZT,rfl,?_⟩,?_⟩
   .have e:TQ w (n+1)=TQ w n:=by rw[TQ,if_neg pA]
    rw[e];exact t3
   .simp only[vi,Zr,↓reduceIte,f4];omega
 .have Xv:¬(n:Int)<5:=pA;obtain rfl:n=5:=pA;rw[f3]at t3;simp -implicitDefEqProofs only[go_sem,f1,f3,f4,r6];exact⟨t3,b1⟩
def XJ(n:Nat):Raw:=⟨2,n,0,0,[]⟩
def Zbw(k:Int):Prop:=k=1\/k=2\/k=6\/k=8
instance (k:Int):Decidable (Zbw k):=by unfold Zbw;infer_instance
def manyN(l:List Raw):Nat->Nat
 | 0=>100
 | i+1=>match l[i]? with
  | some x=>if Zbw x.k then manyN l i+20 else manyN l i
  | none=>manyN l i
theorem Kq(l:List Raw):∀i,manyN l i<=100+20*i:=by
 intro i
 induction i with
 | zero=>exact ba _
 | succ i ih=>
  unfold manyN
  cases l[i]? with
  | none=>simp only;omega
  | some x=>simp only;split<;>omega
def Uk(l:List Raw)(n many:Nat):List Raw:=JM (JM l 0++[XJ n]) many
def VJ(l:List Raw)(n many:Nat):Nat->List Raw
 | 0=>l
 | k+1=>Uk (VJ l n many k) n many
def Yr(l:List Raw)(n:Nat):List Raw:=VJ l n (manyN l (U l)) 2
theorem uw(l:List Raw)(n many:Nat):(Uk l n many).length=(U l)+11+6*many:=by
 unfold Uk;rw[SD,ag,SD,bk]
theorem Er(l:List Raw)(n many k:Nat):(VJ l n many k).length=(U l)+k*(11+6*many):=by
 induction k with
 | zero=>simp[VJ]
 | succ k ih=>rw[VJ,uw,ih,Nat.add_mul k 1 (11+6*many),Nat.one_mul];omega
theorem Az{n:Nat}(h:n<5):(XJ n).err=0:=by
 have:∀n<5,(XJ n).err=0:=aaa;exact this n h
theorem uy(h:∀x∈l,x.err=0){n:Nat}(hn:n<5)(many k:Nat):∀x∈VJ l n many k,x.err=0:=by
 induction k with
 | zero=>exact h
 | succ k ih=>
  unfold VJ Uk;refine En (fun x hx=>?_) many;rcases Y.1 hx with hx|hx
  .exact En ih 0 x hx
  .rw[aO.1 hx];exact Az hn
theorem SE(h:∀x∈l,x.err=0){n:Nat}(hn:n<5):∀x∈Yr l n,x.err=0:=uy h hn _ 2
theorem SF{n b:Nat}(h:(U l)<=b):(Yr l n).length<=b+2*(11+6*(100+20*b)):=by
 unfold Yr;rw[Er];have:=Kq l (U l);omega
set_option maxHeartbeats 4000000 in
theorem Hv(T:World)(h:Hp)(v:aD)(xs:List (Raw × aD))(n:Nat)(hn:n<5)(hv:Ts We 5 h v xs)(hx:∀x∈xs,Pv Nx h x.2 x.1.data)(BT:xs.length<=1000):
  Zd a9 T 9 #[v,.int .i64 n] h fun v' h'=>Zj h.size h h'/\RY v'/\∃ys,Xh ys=Yr (Xh xs) n/\Ts We 5 h' v' ys/\∀y∈ys,Pv Nx h' y.2 y.1.data:=by
 have rl:(Xh xs).length=xs.length:=by unfold Xh;simp
 obtain⟨p,c,rfl,XL⟩:=hv.open Ef aaa;refine Zd.XS [_,_] Tryz.func9 ?_;simp -implicitDefEqProofs only[go_sem];refine VS.Yk (fun F g=>g=h/\F 0=.slice p xs.length c/\F 1=.int .i64 n/\∃i:Nat,i<=xs.length/\F 6=.int .i64 i/\F 5=.int .i64 (manyN (Xh xs) i))
  (fun F _=>xs.length-(vi (F 6)).toNat) rfl ⟨rfl,rfl,rfl,0,Nat.zero_le _,rfl,rfl⟩ ?_
 rintro F g ⟨rfl,f0,f1,i,hi,f6,f5⟩;have gh:=Kq (Xh xs) i;obtain⟨M,hM⟩:=ZL (manyN (Xh xs) i);rw[<-hM]at f5 gh;by_cases ZT:i<xs.length
 .have Z7:(i:Int)<xs.length:=pA;obtain⟨bs,os,rfl,mJ,Kc⟩:=XL (by intro e;rw[e]at ZT;simp at ZT);obtain⟨x,P9⟩:=ZL (xs[i]);have ca:X6 g bs (os+i*5) (We x):=by rw[P9];exact Kc i ZT
  have r0:hc g ⟨bs,os+i*5,aa⟩=Z (.int .i64 x.1.k):=ca.hc (i:=0) rfl;have hxr:(Xh xs)[i]? = Z x.1:=by unfold Xh;rw[bf,a0 ZT,<-P9];rfl
  have Zbx:Zbw x.1.k->manyN (Xh xs) (i+1)=M+20:=fun q=>by rw[manyN,hxr];simp only;rw[if_pos q,hM]
  have mj:¬Zbw x.1.k->manyN (Xh xs) (i+1)=M:=fun q=>by rw[manyN,hxr];simp only;rw[if_neg q,hM]
  obtain⟨M',hM'⟩:=ZL (manyN (Xh xs) (i+1));rw[<-hM']at Zbx mj;by_cases q1:x.1.k=1
  .have hb:=Zbx (.inl q1);simp -implicitDefEqProofs only[go_sem,f0,f1,f5,f6,Z7,r0,q1];unfold XN;refine⟨⟨rfl,f0,f1,i+1,ZT,rfl,?_⟩,?_⟩
   .rw[<-hM',hb];rfl
   .simp only[vi,Zr,↓reduceIte,f6];omega
  by_cases q2:x.1.k=2
  .have hb:=Zbx (.inr (.inl q2));simp -implicitDefEqProofs only[go_sem,f0,f1,f5,f6,Z7,r0,q2];unfold XN;refine⟨⟨rfl,f0,f1,i+1,ZT,rfl,?_⟩,?_⟩
   .rw[<-hM',hb];rfl
   .simp only[vi,Zr,↓reduceIte,f6];omega
  by_cases q3:x.1.k=6
  .have hb:=Zbx (.inr (.inr (.inl q3)));simp -implicitDefEqProofs only[go_sem,f0,f1,f5,f6,Z7,r0,q3];unfold XN;refine⟨⟨rfl,f0,f1,i+1,ZT,rfl,?_⟩,?_⟩
   .rw[<-hM',hb];rfl
   .simp only[vi,Zr,↓reduceIte,f6];omega
  by_cases q4:x.1.k=8
  .have hb:=Zbx (.inr (.inr (.inr q4)));simp -implicitDefEqProofs only[go_sem,f0,f1,f5,f6,Z7,r0,q4];unfold XN;refine⟨⟨rfl,f0,f1,i+1,ZT,rfl,?_⟩,?_⟩
   .rw[<-hM',hb];rfl
   .simp only[vi,Zr,↓reduceIte,f6];omega
  .have hb:=mj (by rintro (q|q|q|q)<;>contradiction);simp -implicitDefEqProofs only[go_sem,f0,f1,f5,f6,Z7,r0,q1,q2,q3,q4];unfold XN;refine⟨⟨rfl,f0,f1,i+1,ZT,rfl,?_⟩,?_⟩
   .rw[<-hM',hb];exact f5
   .simp only[vi,Zr,↓reduceIte,f6];omega
 have Xv:¬(i:Int)<xs.length:=pA;obtain rfl:i=xs.length:=pA;have hMM:Yr (Xh xs) n=VJ (Xh xs) n M 2:=by unfold Yr;rw[rl,hM]
 rw[hMM];clear hM;simp -implicitDefEqProofs only[go_sem,f0,f6,Xv];refine (Jm.nil g).Zbq IQ hv hx pA ?_;intro v1 o1 g1 A1;rw[bb]at A1;obtain⟨B1,C1,ys,HP,t1,i1⟩:=A1.done;simp -implicitDefEqProofs only[go_sem,f1,f5];refine VS.Yk (fun F2 g2=>F2 1=.int .i64 n/\F2 5=.int .i64 M/\∃k:Nat,k<=2/\F2 8=.int .i64 k/\Zj g.size g g2/\RY (F2 7)/\∃ys,Xh ys=VJ (Xh xs) n M k/\Ts We 5 g2 (F2 7) ys/\∀y∈ys,Pv Nx g2 y.2 y.1.data)
  (fun F2 _=>2-(vi (F2 8)).toNat) rfl ⟨f1,f5,0,pA,rfl,B1,C1,ys,HP,t1,i1⟩ ?_
 clear f0 f1 f5 f6 A1 B1 C1 HP t1 i1;rintro F2 g2 ⟨f1,f5,k,hk,f8,B2,C2,ys2,hr2,t2,i2⟩;have yl:ys2.length=xs.length+k*(11+6*M):=by
  have:=congrArg U hr2;rw[Er,rl]at this;rw[<-this];unfold Xh;simp
 have hkm:k*(11+6*M)<=2*(11+6*M):=Nat.mul_le_mul_right _ hk;obtain⟨p2,c2,f7,_⟩:=t2.open Ef aaa;by_cases hk2:k<2
 .have ZiK:(k:Int)<2:=pA;rw[f7]at t2;simp -implicitDefEqProofs only[go_sem,f1,f5,f7,f8,ZiK];refine (Eo T g2 _ ys2 0 t2 i2 pA pA).use ?_;rintro v3 g3 ⟨o3,A3⟩;obtain⟨p3,c3,rfl,_⟩:=A3.ZP;have B3:=A3.done.1;simp -implicitDefEqProofs only[go_sem,f1,f5,f8];refine A3.add (by rw[SD];unfold Xh;rw[a1];omega) 2 n 0 0 ?_;intro v4 o4 g4 A4;obtain⟨B4,C4,ys4,hr4,t4,i4⟩:=A4.done;have yl4:ys4.length=ys2.length+6:=by
   have:=congrArg U hr4;rw[ag,SD]at this;unfold Xh at this;simp only[a1,bk]at this;omega
  simp -implicitDefEqProofs only[go_sem,f1,f5,f8];refine (ur T g4 _ ys4 M t4 i4 pA pA).use ?_;rintro v5 g5 ⟨B5,C5,ys5,hr5,t5,i5⟩;simp -implicitDefEqProofs only[go_sem,f8];unfold XN;refine⟨⟨f1,f5,k+1,hk2,rfl,?_,C5,ys5,?_,t5,i5⟩,?_⟩
  .exact B2.trans ((B4.trans (B5.mono B4.size)).mono B2.size)
  .rw[hr5,hr4,hr2];rfl
  .simp only[vi,Zr,↓reduceIte,f8];omega
 .have ZiK:¬(k:Int)<2:=pA;obtain rfl:k=2:=pA;simp -implicitDefEqProofs only[go_sem,f7,f8,ZiK];rw[f7]at t2 C2;exact⟨B2,C2,ys2,hr2,t2,i2⟩
def Hw(w:Wd)(i:Nat):Wd:=w.out i (step (w.Zb i))
def Es(w:Wd):Wd:=Hw (Hw (Hw (Hw (Hw w 0) 1) 2) 3) 4
def Zby(w:Wd):Wd:=w.Zp.foldl QL { w with Zp:=[] }
def kZ(w:Wd):Wd:=Zby (Es w)
def Qq:Nat->Wd->Wd
 | 0,w=>w
 | k+1,w=>kZ (Qq k w)
theorem UM(w:Wd)(n:Nat):act w (Wq n).ac=Hw w n:=by
 unfold act Wq Raw.ac Hw;simp
theorem oQ(w:Wd):act w dY.ac=Zby w:=by
 unfold act dY Raw.ac Zby;simp
theorem SG(l k:List Raw):Xo (l++k)=(k.map Raw.ac).foldl act (Xo l):=by
 unfold Xo TK;rw[a4,be]
theorem uz(l:List Raw):Xo (l++S7)=kZ (Xo l):=by
 rw[SG];show act (act (act (act (act (act (Xo l) (Wq 0).ac) (Wq 1).ac) (Wq 2).ac) (Wq 3).ac) (Wq 4).ac) dY.ac=_;rw[UM,UM,UM,UM,UM,oQ];rfl
theorem Zbz(l:List Raw):∀k,Xo (l++Uv k)=Qq k (Xo l):=by
 intro k
 induction k with
 | zero=>rw[show Uv 0=[] from rfl,bc];rfl
 | succ k ih=>rw[MQ,<-aN,uz,ih];rfl
theorem Vv(w:Wd)(n:Nat)(hu:(w.Zb n).up=true):act w (UX n).ac=w:=by
 have e:act w (UX n).ac=w.set n (started n (w.Zb n)):=by
  unfold act UX Raw.ac;simp
 rw[e];unfold started;rw[if_pos hu];unfold Wd.set
 congr 1
 funext j
 split
 .rename_i q;rw[q]
 .rfl
theorem Et(l:List Raw)(hu:∀i,i<5->((Xo l).Zb i).up=true):Xo (l++XY 5)=Xo l:=by
 rw[SG];show act (act (act (act (act (Xo l) (UX 0).ac) (UX 1).ac) (UX 2).ac) (UX 3).ac) (UX 4).ac=_;rw[Vv _ _ (hu 0 pA),Vv _ _ (hu 1 pA),Vv _ _ (hu 2 pA),Vv _ _ (hu 3 pA),Vv _ _ (hu 4 pA)]
theorem eW:∀(ls:List YH) (w:Wd) (i:Nat),(ls.foldl QL w).Zb i=if (w.Zb i).up=true then { w.Zb i with Zg:=(w.Zb i).Zg++ls.filter (fun l=>decide (l.to.toNat=i)) } else w.Zb i:=by
 intro ls
 induction ls with
 | nil=>intro w i;simp
 | cons l ls ih=>
  intro w i;rw[a3,ih];unfold QL;by_cases e:i=l.to.toNat
  .subst e;by_cases hu:(w.Zb l.to.toNat).up=true
   .rw[if_pos hu];unfold Wd.set;simp only[if_true,hu,bx,decide_true,aN,bw,bb]
   .rw[if_neg hu,if_neg hu,if_neg hu]
  .have hf:(l :: ls).filter (fun l=>decide (l.to.toNat=i))=ls.filter (fun l=>decide (l.to.toNat=i)):=by
    rw[bx,if_neg];simp;exact fun q=>e q.symm
   rw[hf];split
   .unfold Wd.set;simp only[if_neg e]
   .rfl
def RL(w:Wd):List YH:=w.Zp++(step (w.Zb 0)).ls++(step (w.Zb 1)).ls++(step (w.Zb 2)).ls++(step (w.Zb 3)).ls++(step (w.Zb 4)).ls
theorem lj(w:Wd):(Es w).Zp=RL w:=by
 unfold Es RL Hw Wd.out;simp
theorem uA(w:Wd)(i:Nat)(hi:i<5):(Es w).Zb i=(step (w.Zb i)).n:=by
 match i,hi with
 | 0,_=>rfl
 | 1,_=>rfl
 | 2,_=>rfl
 | 3,_=>rfl
 | 4,_=>rfl
theorem QU(w:Wd)(i:Nat)(hi:i<5)(hu:(w.Zb i).up=true):(kZ w).Zb i = { (step (w.Zb i)).n with Zg:=(step (w.Zb i)).n.Zg++(RL w).filter (fun l=>decide (l.to.toNat=i)) }:=by
 unfold kZ Zby;have e:({ Es w with Zp:=[] }:Wd).Zb i=(step (w.Zb i)).n:=uA w i hi;rw[eW,e,if_pos (by rw[(Nz (w.Zb i)).1];exact hu),lj]
theorem AA(w:Wd):(kZ w).Zp=[]:=by
 unfold kZ Zby;exact (kT _ _).2.2
theorem Vw{w:Wd}{l:YH}:l∈RL w↔l∈w.Zp\/∃i,i<5/\l∈(step (w.Zb i)).ls:=by
 unfold RL;simp only[Y]
 constructor
 .rintro (((((h|h)|h)|h)|h)|h)
  .exact .inl h
  .exact .inr ⟨0,pA,h⟩
  .exact .inr ⟨1,pA,h⟩
  .exact .inr ⟨2,pA,h⟩
  .exact .inr ⟨3,pA,h⟩
  .exact .inr ⟨4,pA,h⟩
 .rintro (h|⟨i,hi,h⟩)
  .exact .inl (.inl (.inl (.inl (.inl h))))
  .match i,hi with
   | 0,_=>exact .inl (.inl (.inl (.inl (.inr h))))
   | 1,_=>exact .inl (.inl (.inl (.inr h)))
   | 2,_=>exact .inl (.inl (.inr h))
   | 3,_=>exact .inl (.inr h)
   | 4,_=>exact .inr h
theorem NB{w:Wd}{i:Nat}(hi:i<5)(hu:(w.Zb i).up=true){l:YH}:l∈((kZ w).Zb i).Zg↔l∈(step (w.Zb i)).n.Zg\/(l∈RL w/\l.to.toNat=i):=by
 rw[QU w i hi hu];simp only[Y,a2,decide_eq_true_eq]
structure Laws(I:Nd->Prop)(J K:YH->Prop):Prop where
 box:∀n k,I n->I { n with Zg:=k }
 oR:∀n l,I n->n.Zs=aa->J l->I (Zw n l).n/\∀m∈(Zw n l).ls,K m
 oS:∀n,I n->n.Zs=aa->I (Yq n).n/\∀m∈(Yq n).ls,K m
 fin:∀n p,I n->n.Zs=Z p->I (YM (ZQ n) p).n/\∀m∈(YM (ZQ n) p).ls,K m
def Ta(n:Nd):Prop:=n.Zs=aa/\(ZB n n.Zg).n.Zs=aa
theorem J8{I:Nd->Prop}{J K:YH->Prop}(W:Laws I J K):∀(k:List YH) (n:Nd),I n->(∀l∈k,J l)->I (ZB n k).n/\(∀m∈(ZB n k).ls,K m)/\∀l∈(ZB n k).n.Zg,l∈k:=by
 intro k
 induction k with
 | nil=>
  intro n h _;unfold ZB;exact⟨W.box _ _ h,(fun m hm=>by cases hm),(fun l hl=>by cases hl)⟩
 | cons l k ih=>
  intro n h hk;unfold ZB;by_cases hp:n.Zs.isSome=true
  .rw[if_pos hp];exact⟨W.box _ _ h,(fun m hm=>by cases hm),fun m hm=>hm⟩
  .rw[if_neg hp];have vI:({ n with Zg:=k }:Nd).Zs=aa:=by
    show n.Zs=aa
    cases q:n.Zs with
    | none=>rfl
    | some p=>rw[q]at hp;exact absurd rfl hp
   obtain⟨h1,h2⟩:=W.oR { n with Zg:=k } l (W.box _ _ h) vI (hk l IQ);obtain⟨h3,h4,h5⟩:=ih _ h1 (fun m hm=>hk m (by simp[hm]));refine⟨h3,fun m hm=>?_,fun m hm=>List.mem_cons_of_mem _ (h5 m hm)⟩;rcases Y.1 hm with hm|hm
   .exact h2 m hm
   .exact h4 m hm
theorem Tm{I:Nd->Prop}{J K:YH->Prop}(W:Laws I J K){n:Nd}(hu:n.up=true)(h:I n)(hb:∀l∈n.Zg,J l):I (step n).n/\(∀m∈(step n).ls,K m)/\∀l∈(step n).n.Zg,l∈n.Zg:=by
 unfold step;rw[if_pos hu]
 cases hp:n.Zs with
 | some p=>
  simp only;obtain⟨h1,h2⟩:=W.fin n p h hp;exact⟨h1,h2,fun l hl=>by rw[Km]at hl;exact hl⟩
 | none=>
  simp only;obtain⟨h1,h2,h3⟩:=J8 W n.Zg n h hb;split
  .exact⟨h1,h2,h3⟩
  .rename_i q;have q0:(ZB n n.Zg).n.Zs=aa:=by
    cases e:(ZB n n.Zg).n.Zs with
    | none=>rfl
    | some p=>rw[e]at q;exact absurd rfl q
   obtain⟨h4,h5⟩:=W.oS _ h1 q0;refine⟨h4,fun m hm=>?_,fun l hl=>?_⟩
   .rcases Y.1 hm with hm|hm
    .exact h2 m hm
    .exact h5 m hm
   .simp only at hl;rw[kV]at hl;exact h3 l hl
theorem drain_empty:∀(k:List YH) (n:Nd),(ZB n k).n.Zs=aa->(ZB n k).n.Zg=[]:=by
 intro k
 induction k with
 | nil=>intro n _;unfold ZB;rfl
 | cons l k ih=>
  intro n h;unfold ZB at h ⊢;by_cases hp:n.Zs.isSome=true
  .rw[if_pos hp]at h;have h:n.Zs=aa:=h;rw[h]at hp
   cases hp
  .rw[if_neg hp]at h ⊢;exact ih _ h
theorem WY{n:Nd}(hu:n.up=true)(hf:Ta n):step n=⟨(Yq (ZB n n.Zg).n).n,(ZB n n.Zg).ls++(Yq (ZB n n.Zg).n).ls,(ZB n n.Zg).ts++(Yq (ZB n n.Zg).n).ts⟩:=by
 unfold step;rw[if_pos hu,hf.1];simp only;rw[hf.2];rfl
structure MR(I:Nd->Prop)(J A G:YH->Prop)(E F:Nd->Prop):Prop where
 uB:∀n k,E n->E { n with Zg:=k }
 ZwU:∀n l,I n->n.Zs=aa->J l->E n->E (Zw n l).n
 ZwV:∀n,I n->n.Zs=aa->E n->E (Yq n).n
 ZdR:∀n p,I n->n.Zs=Z p->E n->E (YM (ZQ n) p).n
 ZiL:∀n k,F n->F { n with Zg:=k }
 ZbA:∀n,F n->n.Zs≠aa
 ZwW:∀n p,I n->n.Zs=Z p->F n->E (YM (ZQ n) p).n\/∃m∈(YM (ZQ n) p).ls,G m
 hit:∀n l,I n->n.Zs=aa->J l->A l->E (Zw n l).n\/F (Zw n l).n\/∃m∈(Zw n l).ls,G m
theorem uC{I:Nd->Prop}{J K A G:YH->Prop}{E F:Nd->Prop}(W:Laws I J K)(H:MR I J A G E F):∀(k:List YH) (n:Nd),I n->(∀l∈k,J l)->n.Zs=aa->(E n\/∃l∈k,A l) ->
  E (ZB n k).n\/F (ZB n k).n\/(∃l∈(ZB n k).n.Zg,A l)\/∃m∈(ZB n k).ls,G m:=by
 intro k
 induction k with
 | nil=>
  intro n h _ hp hs;unfold ZB;rcases hs with hs|⟨l,hl,_⟩
  .exact .inl (H.uB _ _ hs)
  .cases hl
 | cons l k ih=>
  intro n h hk hp hs;have hI:=W.box n k h;have vI:({ n with Zg:=k }:Nd).Zs=aa:=hp;have hJ:=hk l IQ;obtain⟨h1,_⟩:=W.oR _ l hI vI hJ;have e:ZB n (l :: k)=⟨(ZB (Zw { n with Zg:=k } l).n k).n,(Zw { n with Zg:=k } l).ls++(ZB (Zw { n with Zg:=k } l).n k).ls,(Zw { n with Zg:=k } l).ts++(ZB (Zw { n with Zg:=k } l).n k).ts⟩:=by
   conv=>lhs;unfold ZB
   rw[if_neg (by rw[hp];decide)]
  rw[e];simp only;have hj:∀m∈k,J m:=fun m hm=>hk m (by simp[hm])
  -- behind the first letter
  have main:(E (Zw { n with Zg:=k } l).n\/F (Zw { n with Zg:=k } l).n\/(∃m∈(Zw { n with Zg:=k } l).ls,G m))\/∃m∈k,A m:=by
   rcases hs with hs|⟨m,hm,hA⟩
   .exact .inl (.inl (H.ZwU _ l hI vI hJ (H.uB _ _ hs)))
   .rcases a7.1 hm with rfl|hm
    .exact .inl (H.hit _ _ hI vI hJ hA)
    .exact .inr ⟨m,hm,hA⟩
  have stop:∀(x:Nd),x.Zs.isSome=true->(ZB x k)=⟨{ x with Zg:=k },[],[]⟩\/k=[]:=fun x hx=>by
   cases k with
   | nil=>exact .inr rfl
   | cons a k=>exact .inl (by unfold ZB;rw[if_pos hx])
  have onF:F (Zw { n with Zg:=k } l).n->F (ZB (Zw { n with Zg:=k } l).n k).n:=fun hF=>by
   have hs:(Zw { n with Zg:=k } l).n.Zs.isSome=true:=by
    have:=H.ZbA _ hF
    cases q:(Zw { n with Zg:=k } l).n.Zs with
    | none=>exact absurd q this
    | some p=>rfl
   rcases stop _ hs with q|q
   .rw[q];exact H.ZiL _ _ hF
   .subst q;unfold ZB;exact H.ZiL _ _ hF
  rcases main with (hE|hF|⟨m,hm,hG⟩)|hA
  .by_cases hq:(Zw { n with Zg:=k } l).n.Zs=aa
   .rcases ih _ h1 hj hq (.inl hE) with q|q|q|⟨m,hm,q⟩
    .exact .inl q
    .exact .inr (.inl q)
    .exact .inr (.inr (.inl q))
    .exact .inr (.inr (.inr ⟨m,Y.2 (.inr hm),q⟩))
   .have hs:(Zw { n with Zg:=k } l).n.Zs.isSome=true:=by
     cases q:(Zw { n with Zg:=k } l).n.Zs with
     | none=>exact absurd q hq
     | some p=>rfl
    rcases stop _ hs with q|q
    .rw[q];exact .inl (H.uB _ _ hE)
    .subst q;unfold ZB;exact .inl (H.uB _ _ hE)
  .exact .inr (.inl (onF hF))
  .exact .inr (.inr (.inr ⟨m,Y.2 (.inl hm),hG⟩))
  .by_cases hq:(Zw { n with Zg:=k } l).n.Zs=aa
   .rcases ih _ h1 hj hq (.inr hA) with q|q|q|⟨m,hm,q⟩
    .exact .inl q
    .exact .inr (.inl q)
    .exact .inr (.inr (.inl q))
    .exact .inr (.inr (.inr ⟨m,Y.2 (.inr hm),q⟩))
   .have hs:(Zw { n with Zg:=k } l).n.Zs.isSome=true:=by
     cases q:(Zw { n with Zg:=k } l).n.Zs with
     | none=>exact absurd q hq
     | some p=>rfl
    rcases stop _ hs with q|q
    .rw[q];exact .inr (.inr (.inl hA))
    .subst q;obtain⟨m,hm,_⟩:=hA;cases hm
def Src(A:YH->Prop)(E F:Nd->Prop)(n:Nd):Prop:=E n\/F n\/∃l∈n.Zg,A l
theorem eY{I:Nd->Prop}{J K A G:YH->Prop}{E F:Nd->Prop}(W:Laws I J K)(H:MR I J A G E F){n:Nd}(hu:n.up=true)(h:I n)(hb:∀l∈n.Zg,J l)(hs:Src A E F n):
  (Src A E F (step n).n\/∃m∈(step n).ls,G m)/\(Ta n->E (step n).n\/∃m∈(step n).ls,G m):=by
 cases hp:n.Zs with
 | some p=>
  have e:step n=YM (ZQ n) p:=by unfold step;rw[if_pos hu,hp]
  rw[e];refine⟨?_,fun hf=>by rw[hf.1]at hp;cases hp⟩;rcases hs with q|q|⟨l,hl,q⟩
  .exact .inl (.inl (H.ZdR n p h hp q))
  .rcases H.ZwW n p h hp q with q|q
   .exact .inl (.inl q)
   .exact .inr q
  .exact .inl (.inr (.inr ⟨l,by rw[Km];exact hl,q⟩))
 | none=>
  have Od:E n\/∃l∈n.Zg,A l:=by
   rcases hs with q|q|q
   .exact .inl q
   .exact absurd hp (H.ZbA n q)
   .exact .inr q
  have D:=uC W H n.Zg n h hb hp Od;have hd:=(J8 W n.Zg n h hb).1;by_cases hq:(ZB n n.Zg).n.Zs=aa
  .rw[WY hu ⟨hp,hq⟩];have G0:E (Yq (ZB n n.Zg).n).n\/∃m∈(ZB n n.Zg).ls++(Yq (ZB n n.Zg).n).ls,G m:=by
    rcases D with q|q|⟨l,hl,_⟩|⟨m,hm,q⟩
    .exact .inl (H.ZwV _ hd hq q)
    .exact absurd hq (H.ZbA _ q)
    .rw[drain_empty _ _ hq]at hl;cases hl
    .exact .inr ⟨m,Y.2 (.inl hm),q⟩
   refine⟨?_,fun _=>G0⟩;rcases G0 with q|q
   .exact .inl (.inl q)
   .exact .inr q
  .have e:step n=ZB n n.Zg:=by
    unfold step;rw[if_pos hu,hp];simp only;rw[if_pos]
    cases q:(ZB n n.Zg).n.Zs with
    | none=>exact absurd q hq
    | some p=>rfl
   rw[e];refine⟨?_,fun hf=>absurd hf.2 hq⟩;rcases D with q|q|q|q
   .exact .inl (.inl q)
   .exact .inl (.inr (.inl q))
   .exact .inl (.inr (.inr q))
   .exact .inr q
def Has{β:Type}(l:List (Int × β))(k:Int):Prop:=Yh l k≠aa
theorem Has.ins{β:Type}{l:List (Int × β)}{j:Int}(h:Has l j)(k:Int)(v:β):Has (Go.V.ins l k v) j:=by
 unfold Has;rw[Xk];split
 .exact fun e=>by cases e
 .exact h
theorem Has.now{β:Type}(l:List (Int × β))(k:Int)(v:β):Has (Go.V.ins l k v) k:=by
 unfold Has;rw[Xk,if_pos rfl];exact fun e=>by cases e
def oU(r:XE)(s j:Int):Prop:=Has ((Yh r.Xb s).getD []) j
structure XZ(r r':XE):Prop where
 b:r'.b=r.b
 ZY:∀s x,Yh r.ZY s=Z x->Yh r'.ZY s=Z x
 XU:r.XU=true->r'.XU=true
 ZI:∀k,Has r.ZI k->Has r'.ZI k
 Xb:∀s j,oU r s j->oU r' s j
theorem XZ.refl(r:XE):XZ r r:=⟨rfl,fun _ _ h=>h,fun h=>h,fun _ h=>h,fun _ _ h=>h⟩
theorem XZ.trans{a b c:XE}(h1:XZ a b)(h2:XZ b c):XZ a c:=
 ⟨by rw[h2.b,h1.b],fun s x h=>h2.ZY s x (h1.ZY s x h),fun h=>h2.XU (h1.XU h),fun k h=>h2.ZI k (h1.ZI k h),fun s j h=>h2.Xb s j (h1.Xb s j h)⟩
structure VQ(r r':XE):Prop where
 k:XZ r r'
 p:r'.ZY=r.ZY
 g:r'.XU=r.XU
theorem VQ.refl(r:XE):VQ r r:=⟨XZ.refl r,rfl,rfl⟩
theorem VQ.trans{a b c:XE}(h1:VQ a b)(h2:VQ b c):VQ a c:=⟨h1.k.trans h2.k,by rw[h2.p,h1.p],by rw[h2.g,h1.g]⟩
def UY:Option XE->Option XE->Prop
 | none,aa=>True
 | some r,Z r'=>VQ r r'
 | _,_=>False
theorem UY.refl:∀o,UY o o
 | none=>trivial
 | some r=>VQ.refl r
theorem UY.trans:∀{a b c:Option XE},UY a b->UY b c->UY a c
 | none,aa,aa,_,_=>trivial
 | some _,Z _,Z _,h1,h2=>VQ.trans h1 h2
 | none,Z _,_,h,_=>h.elim
 | some _,aa,_,h,_=>h.elim
 | none,aa,Z _,_,h=>h.elim
 | some _,Z _,aa,_,h=>h.elim
structure VR(n m:Nd):Prop where
 up:m.up=n.up
 me:m.me=n.me
 ZA:∃e,m.ZA=n.ZA++e
 Zi:∀s,Has n.Zi s->Has m.Zi s
 Zx:∀x∈n.Zx,x∈m.Zx\/x∈m.ZA
theorem VR.refl(n:Nd):VR n n:=⟨rfl,rfl,⟨[],IQ⟩,fun _ h=>h,fun x h=>.inl h⟩
theorem VR.trans{a b c:Nd}(h1:VR a b)(h2:VR b c):VR a c:=by
 obtain⟨e1,p1⟩:=h1.ZA;obtain⟨e2,p2⟩:=h2.ZA;refine⟨by rw[h2.up,h1.up],by rw[h2.me,h1.me],⟨e1++e2,by rw[p2,p1,aN]⟩,fun s h=>h2.Zi s (h1.Zi s h),fun x hx=>?_⟩;rcases h1.Zx x hx with q|q
 .exact h2.Zx x q
 .exact .inr (by rw[p2];exact Y.2 (.inl q))
theorem VR.same{n m:Nd}(h1:m.up=n.up)(h2:m.me=n.me)(h3:m.ZA=n.ZA)(h4:m.Zi=n.Zi)(h5:m.Zx=n.Zx):VR n m:=
 ⟨h1,h2,⟨[],by rw[h3];simp⟩,fun s h=>by rw[h4];exact h,fun x hx=>.inl (by rw[h5];exact hx)⟩
structure XK(n m:Nd):Prop where
 go:VR n m
 Zq:m.Zq=n.Zq
 Y4:m.Y4=n.Y4
 data:m.data=n.data
 Zs:m.Zs=n.Zs
 S9:UY n.Zh m.Zh
theorem XK.refl(n:Nd):XK n n:=⟨VR.refl n,rfl,rfl,rfl,rfl,UY.refl _⟩
theorem XK.trans{a b c:Nd}(h1:XK a b)(h2:XK b c):XK a c:=
 ⟨h1.go.trans h2.go,by rw[h2.Zq,h1.Zq],by rw[h2.Y4,h1.Y4],by rw[h2.data,h1.data],by rw[h2.Zs,h1.Zs],h1.S9.trans h2.S9⟩
theorem AB(n:Nd)(x:Cm):XK n (J4 n x):=by
 refine⟨⟨rfl,rfl,⟨[x],rfl⟩,fun _ h=>h,fun y hy=>?_⟩,rfl,rfl,rfl,rfl,UY.refl _⟩;by_cases e:y=x
 .exact .inr (Y.2 (.inr (by rw[e];simp)))
 .exact .inl (a2.2 ⟨hy,by simp[e]⟩)
theorem Dt:∀(k:Nat) (n:Nd),XK n (Yg k n).1/\(Yg k n).1.Zi=n.Zi:=by
 intro k
 induction k with
 | zero=>intro n;exact⟨XK.refl n,rfl⟩
 | succ k ih=>
  intro n;unfold Yg;split
  .exact⟨XK.refl n,rfl⟩
  .rename_i x _;obtain⟨h1,h2⟩:=ih (J4 n x);exact⟨(AB n x).trans h1,h2⟩
theorem Ul(n:Nd)(s:Int)(x:Cm):XK n (Jl n s x).n/\Has (Jl n s x).n.Zi s/\(Jl n s x).ls=[]:=by
 unfold Jl;obtain⟨h1,h2⟩:=Dt ((Jk n s x).Zi.length+1) (Jk n s x);refine⟨XK.trans (b:=Jk n s x) ⟨⟨rfl,rfl,⟨[],by simp[Jk]⟩,fun j h=>Has.ins h s x,fun y hy=>.inl hy⟩,rfl,rfl,rfl,rfl,UY.refl _⟩ h1,?_,rfl⟩;show Has (Yg ((Jk n s x).Zi.length+1) (Jk n s x)).1.Zi s;rw[h2];exact Has.now _ _ _
theorem OV(n:Nd)(l:YH):XK n (Xz n l):=by
 unfold Xz;split
 .exact⟨VR.same rfl rfl rfl rfl rfl,rfl,rfl,rfl,rfl,UY.refl _⟩
 .exact XK.refl n
theorem CG(n:Nd)(x:Cm):XK n (add n x)/\(x∈(add n x).Zx\/x∈(add n x).ZA):=by
 unfold add;split
 .rename_i q;exact⟨XK.refl n,q⟩
 .exact⟨⟨⟨rfl,rfl,⟨[],IQ⟩,fun _ h=>h,fun y hy=>.inl (Y.2 (.inl hy))⟩,rfl,rfl,rfl,rfl,UY.refl _⟩,.inl (Y.2 (.inr IQ))⟩
theorem ln{n:Nd}(hr:n.Zh=Z r)(l:YH):XK n (ZdX n r l):=by
 refine⟨VR.same rfl rfl rfl rfl rfl,rfl,rfl,rfl,rfl,?_⟩;rw[hr];exact⟨⟨rfl,fun _ _ h=>h,fun h=>h,fun k h=>Has.ins h _ _,fun _ _ h=>h⟩,rfl,rfl⟩
theorem Eu{n:Nd}(hr:n.Zh=Z r)(l:YH):XK n (TG n r l):=by
 refine⟨VR.same rfl rfl rfl rfl rfl,rfl,rfl,rfl,rfl,?_⟩;rw[hr];refine⟨⟨rfl,fun _ _ h=>h,fun h=>h,fun k h=>h,fun s j h=>?_⟩,rfl,rfl⟩;unfold oU;show Has ((Yh (ins r.Xb l.v.Zu (Ug r l)) s).getD []) j;rw[Xk];split
 .rename_i e;show Has (Ug r l) j;unfold Ug;unfold oU at h;rw[e];exact Has.ins h _ _
 .exact h
theorem OW(n:Nd)(l:YH):XK n (Ym n l).n/\(Ym n l).ls=[]:=by
 unfold Ym
 cases hr:n.Zh with
 | none=>exact⟨XK.refl n,rfl⟩
 | some r=>
  simp only;split
  .split
   .exact⟨ln hr l,rfl⟩
   .exact⟨XK.refl n,rfl⟩
  .split
   .exact⟨XK.refl n,rfl⟩
   .split
    .obtain⟨h1,_,h3⟩:=Ul (TG n r l) l.v.Zu l.v.cm;exact⟨(Eu hr l).trans h1,h3⟩
    .exact⟨Eu hr l,rfl⟩
theorem fa(n:Nd)(l:YH):XK n (Qy n l).n:=by
 unfold Qy;split
 .exact OV n l
 .exact OV n l
def ZnO(n:Nd)(l:YH):Nd:={ n with data:=n.data++YV (JT l.b),Zs:=Z (.VN ⟨l.b,n.Zq.l⟩ l.Jw l.b n.Zq.l) }
def ZnP(n:Nd)(l:YH):Nd:={ n with data:=n.data++YV (Uy l.v),Zs:=Z (.TX ⟨l.v.b,JH n.Zq.l l.v⟩ l.Jw l.v) }
theorem X1(n:Nd)(l:YH):(∀m∈(Zw n l).ls,m.Z3≠0/\m.Z3≠2)/\(XK n (Zw n l).n \/
  (l.Z3=0/\YI n.Zq.p n.Zq.l l.b=0/\n.Zq.p≠l.b/\Jp n.data n.Y4 l.b=0/\(Zw n l).n=ZnO n l) \/
  (l.Z3=2/\Xn n.Zq.p n.Zq.l l.v=0/\l.v ∉ n.Zq.l/\Ue n.data n.Y4 l.v=0/\(Zw n l).n=ZnP n l)):=by
 have one:∀(k:Int) (f t:Int) (b:YA) (v:Vt) (vs:List Vt),k≠0->k≠2->∀m∈[(⟨k,f,t,b,v,vs⟩:YH)],m.Z3≠0/\m.Z3≠2:=fun k f t b v vs h1 h2 m hm=>by
  rw[aO.1 hm];exact⟨h1,h2⟩
 have nil:∀m∈([]:List YH),m.Z3≠0/\m.Z3≠2:=fun m hm=>by cases hm
 unfold Zw;split
 .rename_i hk;unfold YG;split
  .exact⟨one _ _ _ _ _ _ aaa aaa,.inl (XK.refl n)⟩
  .split
   .exact⟨one _ _ _ _ _ _ aaa aaa,.inl (XK.refl n)⟩
   .split
    .exact⟨nil,.inl (XK.refl n)⟩
    .rename_i q1 q2 q3;exact⟨nil,.inr (.inl ⟨hk,pA,q2,pA,rfl⟩)⟩
 split
 .obtain⟨h1,h2⟩:=OW n l;exact⟨by rw[h2];exact nil,.inl h1⟩
 split
 .rename_i hk;unfold asked;split
  .exact⟨one _ _ _ _ _ _ aaa aaa,.inl (XK.refl n)⟩
  .split
   .exact⟨one _ _ _ _ _ _ aaa aaa,.inl (XK.refl n)⟩
   .split
    .exact⟨nil,.inl (XK.refl n)⟩
    .rename_i q1 q2 q3;exact⟨nil,.inr (.inr ⟨hk,pA,q2,pA,rfl⟩)⟩
 split
 .exact⟨nil,.inl (CG n l.v.cm).1⟩
 split
 .refine⟨?_,.inl (fa n l)⟩;unfold Qy;split
  .exact one _ _ _ _ _ _ aaa aaa
  .exact nil
 split
 .obtain⟨h1,_,h3⟩:=Ul n l.v.Zu l.v.cm;exact⟨by rw[h3];exact nil,.inl h1⟩
 .exact⟨nil,.inl (OV n l)⟩
end Go.Proofs.YthlfaofofaphfaaGreatDoor

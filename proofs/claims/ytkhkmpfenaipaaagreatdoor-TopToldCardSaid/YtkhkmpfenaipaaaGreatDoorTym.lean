/- Part Tym. -/
import Derived.Test.YtkhkmpfenaipaaaGreatDoorTxc
import Derived.Test.YtkhkmpfenaipaaaGreatDoorMoq
open Go.Value renaming slice→ak,int→al
open Go.IntKind renaming i64→ae
open Go.Obj renaming cells→aI
open Go.Proofs.Tryz renaming prog→aL,underlying23→ba
open List renaming length→U,mem_singleton→am,length_append→aq,mem_append→ax,mem_map→aC,append_assoc→aF,range_succ→aS,append_nil→aV,range→aW,getElem?_eq_getElem→aX,mem_flatMap→a0,foldl_cons→a1,length_map→a2,map_append→a3,nil_append→a4,mem_filter→a5,mem_iff_getElem?→a6,mem_of_mem_take→a7,flatMap_append→a8,foldl_append→a9,mem_flatten→bc,getElem_mem→bd,range'→bf
open Nat renaming le_refl→an,div_le_div_right→aH
open Int renaming toNat_natCast→aw
open Option renaming some→Z,none→aa
open Go renaming Value→ao
namespace Go.Proofs.YtkhkmpfenaipaaaGreatDoor
set_option maxHeartbeats 4000000
open Go Go.V
set_option linter.all false
variable{C:List Cm}{l:List Raw}{n:Nd}{r:XR}
def oZ(s:Int):∀(l:List Vt) (b:Vt),(l.foldl (Wq s) b=b\/(l.foldl (Wq s) b∈l/\(l.foldl (Wq s) b).Zx=s))/\¬Zj (l.foldl (Wq s) b).b b.b/\∀v∈l,v.Zx=s->¬Zj (l.foldl (Wq s) b).b v.b:=by
 intro l
 induction l with
 | nil=>grind [Yv]
 | cons x l a=>
  intro b;let⟨t,h,o⟩:=a (Wq s b x);rw[a1];have f:¬Zj (Wq s b x).b b.b/\(x.Zx=s->¬Zj (Wq s b x).b x.b)/\(Wq s b x=b\/(Wq s b x=x/\x.Zx=s)):=by
   unfold Wq;split
   .grind [Q6]
   .grind [Yv]
  refine⟨?_,Xh f.1 h,fun v m e=>?_⟩
  .grind
  grind [Xh]
def Oy:∀(l:List Vt) (t:Int),t<=l.foldl (fun t v=>if t<v.Zx then v.Zx else t) t/\(∀v∈l,v.Zx<=l.foldl (fun t v=>if t<v.Zx then v.Zx else t) t)/\(l.foldl (fun t v=>if t<v.Zx then v.Zx else t) t=t\/∃v∈l,l.foldl (fun t v=>if t<v.Zx then v.Zx else t) t=v.Zx):=by
 intro l
 induction l with
 | nil=>grind
 | cons x l a=>
  grind
def My{v:Vt}(h:v∈(Yu r).flatten):∃m:Nat,m<5/\∃vs,YF r.c (m:Int)=Z vs/\v∈vs:=by
 let⟨l,a,o⟩:=bc.1 h;unfold Yu at a;obtain⟨m,f,rfl⟩:=aC.1 a;rw[List.mem_range]at f
 cases e:YF r.c (m:Int) with
 | none=>grind
 | some vs=>grind
def Hq{v:Vt}{m:Nat}(f:m<5){vs:List Vt}(h:YF r.c (m:Int)=Z vs)(a:v∈vs):v∈(Yu r).flatten:=by
 grind [Yu]
def PS{a:QT}(h:Dm a)(hb:∀v∈a.l,¬Zj a.p v.b):Qq a.p a.l=0:=by
 refine Ns ?_ (fun j f=>?_)
 .grind [Dm.bal]
 .rw[KK f];refine⟨h.Xc.1 _ (bd f),hb _ (bd f),?_⟩;by_cases e:j=0
  .exact .inl e
  .rw[Mn (j:=j-1) uh];exact .inr (List.pairwise_iff_getElem.1 h.Xc.2 (j-1) j uh f uh)
section
variable {S:Cm->Prop} {g:Gh} {M:Nat->ZN} {i:Nat} {n:Nd}
def AC(o:PO r):∀v∈(Yu r).flatten,Yz v:=fun v a=>by
 let⟨m,_,vs,h,f⟩:=My a;exact (o.vs _ (SP h)).1 v f
def cG(h:PO r):WS (Yu r).flatten<=39:=by
 let⟨_,_,a⟩:=Oy (Yu r).flatten (-1);have e:WS (Yu r).flatten=(Yu r).flatten.foldl (fun t v=>if t<v.Zx then v.Zx else t) (-1):=rfl;rcases a with a|⟨v,f,a⟩
 .omega
 .have:=(AC h v f).1;omega
def yw(G:GI S g M)(R:RR g M i n r)(u:PO r)(hb:r.a=false)(hm:5<2*r.c.length)(s:Nat)(hs:(s:Int)<=WS (Yu r).flatten):
  Safe g M r.b s (NC (Yu r) s)/\(NC (Yu r) s=Ag\/S (NC (Yu r) s)):=by
 have b2:=cG u;have J:=AC u;have D:S7 (s:Int) (Yu r).flatten=0:=by
  unfold S7 Vn;rw[if_neg uh,if_pos (List.all_eq_true.2 fun v t=>decide_eq_true (J v t))]
 have E:NC (Yu r) s=(Vm (s:Int) (Yu r).flatten).cm:=by unfold NC;rw[if_pos D]
 let⟨o,_,F⟩:=oZ (s:Int) (Yu r).flatten Ps;let⟨B,V⟩:=ZO (Vm (s:Int) (Yu r).flatten);rw[E,<-V];have eB:(Yu r).flatten.foldl (Wq (s:Int)) Ps=B:=V.symm;rw[eB]at o F;have O:=u.c.maj hm;have f:∀i:Nat,i∈r.c.map (fun x=>x.1.toNat)->∃vs,YF r.c (i:Int)=Z vs/\PF g M i r.b vs:=fun i hi=>by
  let⟨vs,h⟩:=u.c.back hi
  grind [RR.c,aw]
 have W:∀i∈r.c.map (fun x=>x.1.toNat),¬Zj (M i) r.b:=fun i hi=>by
  let⟨vs,_,h⟩:=f i hi;exact h.Yi
 rcases o with o|⟨o,h4⟩
 .subst o;refine⟨⟨_,O,W,.inl fun i hi H y I t=>?_⟩,.inl rfl⟩;let⟨vs,a,h⟩:=f i hi;let⟨v,v1,z,_⟩:=h.all H s y I t;have:=F v (Hq h.lt a v1) z;have:=(h.has v v1).1;have A:=J v (Hq h.lt a v1);have:=A.2.1;unfold Zv at this
  grind [Zj,Ps]
 .let⟨m,b1,vs,e1,e2⟩:=My o;have N:=R.c _ _ e1;rw[aw]at N;let⟨p1,p2⟩:=N.has B e2;rw[h4]at p1;have p3:Zj B.b r.b:=by
   refine Classical.byContradiction fun q=>?_;have:=UW q p2;exact R.pn hb _ _ (by rw[<-this];exact G.a _ _ _ _ p1)
  refine⟨⟨_,O,W,.inr ⟨B.b,m,p3,p1,fun i hi H y I t=>?_⟩⟩,G.cmd _ _ _ (G.a _ _ _ _ p1)⟩;let⟨b0,a,h⟩:=f i hi;let⟨v,v1,z,v3⟩:=h.all H s y I t;exact Xh v3 (F v (Hq h.lt a v1) z)
def ZdK(R:RR g M i n r)(a:PO r)(o:5<2*r.c.length){s:Int}(B:WS (Yu r).flatten<s):NP g M r.b s:=by
 have t:=a.c.maj o;let⟨_,D,_⟩:=Oy (Yu r).flatten (-1);refine⟨_,t,fun i hi=>?_,fun i hi u y z m=>?_⟩
 .let⟨vs,h⟩:=a.c.back hi;have:=R.c _ _ h;rw[aw]at this;exact this.Yi
 .let⟨vs,h⟩:=a.c.back hi;have h:=R.c _ _ h;rw[aw]at h;let⟨f,h'⟩:=a.c.back hi;have h:=R.c _ _ h';rw[aw]at h;let⟨v,v1,A,_⟩:=h.all u s y z m
  grind [Yu,PF.lt,WS]
def LC(n:Nd)(f:List (List Vt)):∀(a L:Nat) (pr:List (Int × Cm)),
  (∀t y,YF ((bf L a).foldl (UC n f) pr) t=Z y->YF pr t=Z y\/∃s:Nat,L<=s/\s<L+a/\t=s/\y=NC f s) /\
  (∀s:Nat,L<=s->s<L+a->YF n.Zi (s:Int)=aa->YF ((bf L a).foldl (UC n f) pr) (s:Int)≠aa) /\
  (∀t,YF pr t≠aa->YF ((bf L a).foldl (UC n f) pr) t≠aa):=by
 intro a
 induction a with
 | zero=>grind
 | succ a h=>
  intro L pr;rw[List.range'_succ,a1]
  grind [UC,XQ]
def Mz{x:Cm}:∀(k s t:Nat),Uj n r x k s=Z t->s<=t/\t<s+k/\YF r.ZQ (t:Int)=aa/\YF n.Zi (t:Int)=aa:=by
 intro k
 induction k with
 | zero=>intro s t h;cases h
 | succ k a=>
  grind [Uj.eq_def]
structure RB(S:Cm->Prop)(g:Gh)(M:Nat->ZN)(n:Nd)(r r':XR):Prop where
 b:r'.b=r.b
 c:r'.c=r.c
 Xc:r'.Xc=r.Xc
 a:r'.a=true
 T7:∀t y,g.P r.b t y->YF r'.ZQ t=Z y
 safe:∀t y,YF r'.ZQ t=Z y->Safe g M r.b t y/\(y=Ag\/S y)
 free:∀s:Int,(n.ZF.length:Int)<=s->YF r'.ZQ s=aa->YF n.Zi s=aa->NP g M r.b s
def RB.one{r':XR}(h:RB S g M n r r'){x:Cm}(A:S x):RB S g M n r (Qk n r' x):=by
 unfold Qk;split
 .rename_i s a;let⟨E,D,m,f⟩:=Mz _ _ _ a;have B:=h.free s uh m f;refine⟨h.b,h.c,h.Xc,h.a,fun t y e=>?_,fun t y e=>?_,fun t z u o=>?_⟩
  .grind [RB.T7,XQ]
  .grind [RB.safe,XQ,NP.safe]
  grind [RB.free,XQ]
 .exact h
theorem RB.all:∀(l:List Cm) (r':XR),RB S g M n r r'->(∀x∈l,S x)->RB S g M n r (XS n r' l):=by
 intro l
 induction l with
 | nil=>intro r' h _;exact h
 | cons x l f=>intro r' h a;exact f _ (h.one (a x zX)) (fun y m=>a y (by simp[m]))
theorem ZdL(G:GI S g M)(R:RR g M i n r)(f:PO r)(hb:r.a=false)(a:5<2*r.c.length):RB S g M n r (Qs n r):=by
 let⟨u,o,_⟩:=LC n (Yu r) ((WS (Yu r).flatten+1).toNat-n.ZF.length) n.ZF.length r.ZQ;refine⟨rfl,rfl,rfl,rfl,fun t y e=>(R.pn hb _ _ e).elim,fun t y e=>?_,fun s B m h=>?_⟩
 .rcases u t y e with e|⟨s,A,z,rfl,rfl⟩
  .exact (R.pn hb _ _ (R.safe _ _ e)).elim
  .exact yw G R f hb a s uh
 .obtain⟨k,rfl⟩:∃k:Nat,s=k:=⟨s.toNat,uh⟩
  by_cases D:(k:Int)<=WS (Yu r).flatten
  .exact (o k uh uh h m).elim
  .exact ZdK R f a uh
theorem RR.rb(G:GI S g M)(R:RR g M i n r)(hb:r.a=true):RB S g M n r r:=
 ⟨rfl,rfl,rfl,hb,R.pr,fun t y e=>⟨G.safe _ _ _ (R.safe _ _ e),G.cmd _ _ _ (R.safe _ _ e)⟩,R.free hb⟩
def ZdM(G:GI S g M)(R:RR g M i n r)(h:PO r)(f:5<2*r.c.length)(a:∀x∈n.ZD,S x):RB S g M n r (Xs n r):=by
 grind [Xs,RB.all,ZdL,RR.rb]
structure SR(S:Cm->Prop)(g:Gh)(M:Nat->ZN)(i:Nat)(o:Out)(g':Gh)(M':Nat->ZN):Prop where
 e:Ext i g M g' M'
 a:GI S g' M'
 h:HR S g' M' i o
def SR.same(G:GI S g M){o:Out}(h:HR S g M i o):SR S g M i o g M:=⟨Ext.refl _ _ _,G,h⟩
def ZlX(hi:i<5)(G:GI S g M)(N:NR S g M i n)(o:n.up=true)(hp:n.Zo=aa)(W:JZ C i n)(hr:n.Zc=Z r):∃g' M',SR S g M i (Jc n r) g' M':=by
 have eA:=Yd o;have R:=N.Zc r hr;have RI:=W.Zc r hr;have V:=N.acc;have I:=N.m;rw[eA]at V I;unfold Jc;split
 .rename_i O;split
  .exact⟨g,M,.same G (.same N o)⟩
  .rename_i J;have ea:Qq n.Zn.p n.Zn.l=0:=PS W.Zn (fun v z=>by rw[<-I];exact G.Yi _ _ _ _ (V.has v z));have A:YX n.Zn.p n.Zn.l r.b=0:=by
    unfold YX;rw[if_neg zK,if_neg (fun h=>h R.may),if_neg (Q6 O)]
   have e3:JS n.data n.XI r.b=0:=by simpa using J
   rw[if_pos A,if_pos A];refine⟨g,M,.same G ⟨N.wait o hp (f:=QA r.b) (i6 A) ?_ ⟨r.b,rfl,rfl,A,fun _=>⟨r,hr,rfl⟩⟩,o,fun l a=>by cases a⟩⟩;rw[aq,Ov];exact In e3
 .rename_i O;split
  .refine⟨g,M,.same G ⟨N,o,fun l a=>?_⟩⟩;unfold Te at a
   grind [LR.plain]
  .rename_i J;have B:=ZdM G R RI zK N.b;have hP:=ZdC G (i:=i) (b:=r.b) (l:=(Xs n r).ZQ) R.ZM R.may zK B.T7 (fun t y e=>(B.safe t y e).1) (fun t y e=>(B.safe t y e).2);let⟨E,G'⟩:=hP;let⟨g',F⟩:=ZO (M3 g r.b (Xs n r).ZQ);have hV:g'.V=g.V:=by rw[F];rfl
   have u:∀s x,YF (Xs n r).ZQ s=Z x->g'.P r.b s x:=fun s x e=>by rw[F];exact .inr ⟨rfl,e⟩
   have D:∀s x,g'.P r.b s x->YF (Xs n r).ZQ s=Z x:=fun s x e=>by
    grind [M3,RB.T7]
   rw[<-F]at E G';have Nn:NR S g' M i { n with Zc:=Z (Xs n r) }:=by
    refine⟨⟨fun v z=>E.v _ _ _ _ (N.acc.has v z),fun b s x z=>N.acc.all b s x zK⟩,N.m,⟨N.tape.idle,N.tape.busy,N.tape.down,N.tape.len⟩,fun p e=>?_,fun s x e=>(N.Zi s x e).ext E,fun k x e=>(N.ZF k x e).ext E,N.b,fun r' e=>?_⟩
    .grind
    .obtain rfl:=aag e;refine⟨by rw[B.b];exact R.ZM,by rw[B.b];exact R.may,fun j vs q=>?_,fun q=>?_,?_,?_,?_,fun s K j H q2=>?_⟩
     .rw[B.c]at q;rw[B.b];exact (R.c j vs q).ext E
     .rw[B.a]at q;cases q
     .rw[B.b];exact D
     .rw[B.b];exact u
     .grind [RB.b,NP.ext,RB.free]
     .rw[B.Xc]at H;rw[B.b,hV];exact R.Xc s K j H q2
   refine⟨g',M,E,G',Nn,o,fun l a=>?_⟩;have a:l∈US n (Xs n r):=a;unfold US at a;let⟨s,_,a⟩:=a0.1 a;unfold Wc at a;split at a
   .rename_i x hx;split at a
    .let⟨m,_,a⟩:=a0.1 a;unfold SC at a;split at a
     .obtain rfl:=am.1 a;refine⟨fun e=>(by cases e),fun _=>?_,fun e=>(by cases e),fun e=>(by cases e),fun e=>(by cases e)⟩;show g'.P (Xs n r).b _ _;rw[B.b];exact u _ _ hx
     .cases a
    .cases a
   .cases a
def cH(N:NR S g M i n)(f:n.Zo=aa)(a:n.up=true):NR S g M i (Zt n)/\(Zt n).Zo=aa/\(Zt n).up=true:=by
 unfold Zt;split
 .rename_i r hr;split
  .refine⟨⟨N.acc,N.m,⟨N.tape.idle,N.tape.busy,N.tape.down,N.tape.len⟩,fun p e=>?_,N.Zi,N.ZF,N.b,fun r' e=>by cases e⟩,f,a⟩
   grind
  grind
 grind
def ZhT(hi:i<5)(G:GI S g M)(N:NR S g M i n)(f:n.up=true)(m:n.Zo=aa)(o:JZ C i n):∃g' M',SR S g M i (Yj n) g' M':=by
 unfold Yj;split
 .rename_i r hr;exact ZlX hi G N f m o hr
 .split
  .refine⟨g,M,.same G ⟨N,f,fun l a=>?_⟩⟩;have a:l∈WT n:=a;unfold WT at a;obtain⟨x,h,rfl⟩:=aC.1 a;exact⟨fun e=>(by cases e),fun e=>(by cases e),fun e=>(by cases e),fun _=>N.b x h,fun e=>(by cases e)⟩
  .exact⟨g,M,.same G (.same N f)⟩
theorem yE(n:Nd):∀l∈Wi n,LR S g M l:=fun l a=>by
 unfold Wi at a
 grind [LR.plain]
def NR.YO(N:NR S g M i n):NR S g M i (JT n):=
 ⟨N.acc,N.m,⟨N.tape.idle,N.tape.busy,N.tape.down,N.tape.len⟩,fun p e=>(by have:=N.Zo p e;cases p<;>exact this),N.Zi,N.ZF,N.b,fun r e=>by
  have R:=N.Zc r e;exact⟨R.ZM,R.may,R.c,R.pn,R.pr,R.safe,R.free,R.Xc⟩⟩
def ZdN(hi:i<5)(G:GI S g M)(N:NR S g M i n)(h:n.up=true)(m:n.Zo=aa)(o:JZ C i n):∃g' M',SR S g M i (YH n) g' M':=by
 let⟨t,p1,f⟩:=cH N m h;let⟨g',M',E,a,H⟩:=ZhT hi G t f p1 (cC o).1;unfold YH;split
 .exact⟨g',M',E,a,H⟩
 .refine⟨g',M',E,a,H.n.YO,H.up,fun l u=>?_⟩
  grind [HR.ls,yE]
def ZdO(G:GI S g M)(N:NR S g M i n)(J:n.up=true){p:OT}(O:n.Zo=Z p):∃g' M',Ext i g M g' M'/\GI S g' M'/\AR g' i (YM p)/\M' i=(YM p).p/\(∀b s x,g'.P b s x↔g.P b s x)/\(∀a to v,p=.Us a to v->g'.V i v.b v.Zx v.cm):=by
 have R:=Yd J;have F:=N.acc;have o:=N.m;rw[R]at F o;have f:=N.Zo p O;have same:∀b,¬Zj b (M i)->∃g' M',Ext i g M g' M'/\GI S g' M'/\AR g' i ⟨b,n.Zn.l⟩/\M' i=b/\(∀b s x,g'.P b s x↔g.P b s x):=fun b hb=>by
  obtain⟨E,H⟩:=raised G hb;exact⟨g,MN M i b,E,H,⟨F.has,F.all⟩,by unfold MN;grind,fun _ _ _=>Iff.rfl⟩
 cases p with
 | QB a to b vs=>
  obtain⟨rfl,rfl,m⟩:=f;obtain⟨g',M',B,A,h,z,t⟩:=same b (by rw[o];exact QC m);exact⟨g',M',B,A,h,z,t,fun _ _ _ e=>by cases e⟩
 | Zn a vs cur=>
  obtain⟨b,rfl,rfl,m,_⟩:=f;obtain⟨g',M',B,A,h,z,t⟩:=same b (by rw[o];exact QC m);exact⟨g',M',B,A,h,z,t,fun _ _ _ e=>by cases e⟩
 | Us a to v=>
  obtain⟨rfl,m,h⟩:=f;have V:=Q7 m;obtain⟨E,H⟩:=ZdB G h (by rw[o];exact V);refine⟨_,_,E,H,⟨fun u J=>?_,fun b s x I=>?_⟩,by unfold MN;rw[if_pos rfl];rfl,fun _ _ _=>Iff.rfl,fun _ _ _ e=>by cases e;exact .inr ⟨rfl,rfl,rfl,rfl⟩⟩
  .grind [LB,AR.has,Jq,YM]
  .have D:v∈Jq n.Zn.l v:=by unfold Jq;simp
   rcases I with I|⟨_,rfl,rfl,rfl⟩
   .grind [YM,Jq,AR.all,GI.Yi,Xh]
   .exact⟨v,D,rfl,Yv _⟩
def NR.rest(N:NR S g M i n){g':Gh}{M':Nat->ZN}(E:Ext i g M g' M')(m:∀b s x,g'.P b s x↔g.P b s x):(∀s x,YF n.Zi s=Z x->J9 g' s x)/\(∀(k:Nat) x,n.ZF[k]? = Z x->J9 g' (k:Int) x)/\∀r,n.Zc=Z r->RR g' M' i n r:=by
 refine⟨fun s x e=>(N.Zi s x e).ext E,fun k x e=>(N.ZF k x e).ext E,fun r e=>?_⟩;have R:=N.Zc r e;exact⟨R.ZM,R.may,fun j vs q=>(R.c j vs q).ext E,fun q s x h=>R.pn q s x ((m _ _ _).1 h),fun s x h=>R.pr s x ((m _ _ _).1 h),fun s x h=>(m _ _ _).2 (R.safe s x h),fun q s f a o=>(R.free q s f a o).ext E,fun s K j f a=>by
  let⟨x,t⟩:=R.Xc s K j f a;exact⟨x,E.v _ _ _ _ t⟩⟩
def i9(T:TR n)(a:n.up=true){p:OT}(f:n.Zo=Z p):(ZE n).data=n.data/\(ZE n).XI=(U n.data)/\Whole n.data (YM p):=by
 grind [ZE,TR.busy,TR.len,Xo,Whole.add]
def ZdP(hi:i<5)(G:GI S g M)(N:NR S g M i n)(o:n.up=true)(V:n.me=i){p:OT}(F:n.Zo=Z p):∃g' M',SR S g M i (Yc (ZE n) p) g' M':=by
 let⟨g',M',E,O,A,m',hP,b0⟩:=ZdO G N o F;let⟨r1,r2,D⟩:=N.rest E hP;let⟨B,z,t3⟩:=i9 N.tape o F;have f:=N.Zo p F;have hl:=N.tape.len;have base:∀(m:Nd),m.up=n.up->m.data=n.data->m.XI=(U n.data)->m.Zn=YM p->m.Zo=aa->m.Zi=n.Zi->m.ZF=n.ZF->m.ZD=n.ZD->(∀r,m.Zc=Z r->RR g' M' i m r)->NR S g' M' i m:=fun m e1 J e3 e4 e5 e6 e7 e8 e9=>by
  have eA:YY m=YM p:=by rw[Yd zK,e4]
  refine⟨zK,zK,⟨fun _ _=>⟨zK,by rw[e3,J]⟩,fun _ q hq=>zK,fun h=>zK,zK⟩,fun q hq=>zK,zK,zK,by rw[e8];exact N.b,e9⟩
 have rr:∀(m:Nd),m.Zi=n.Zi->m.ZF=n.ZF->∀r,RR g' M' i n r->RR g' M' i m r:=fun m e1 J r R=>⟨R.ZM,R.may,R.c,R.pn,R.pr,R.safe,fun q s q1 q2 q3=>R.free q s zK q2 zK,R.Xc⟩
 have pf:=A.pf O hi m';refine⟨g',M',E,O,?_⟩
 cases p with
 | QB a to b vs=>
  obtain⟨rfl,rfl,I⟩:=f;show HR S g' M' i ⟨{ ZE n with Zn:=⟨b,n.Zn.l⟩ },[⟨1,n.me,to,b,Ps,n.Zn.l⟩],[]⟩;refine .one (base { ZE n with Zn:=⟨b,n.Zn.l⟩ } rfl B z rfl rfl rfl rfl rfl fun r e=>rr { ZE n with Zn:=⟨b,n.Zn.l⟩ } rfl rfl r (D r e)) o ⟨fun _=>?_,fun e=>(by cases e),fun e=>(by cases e),fun e=>(by cases e),fun e=>(by cases e)⟩;show PF g' M' (((n.me:Nat):Int)).toNat b n.Zn.l;rw[aw,V];exact pf
 | Us a to v=>
  obtain⟨rfl,I,H⟩:=f;show HR S g' M' i ⟨{ ZE n with Zn:=⟨v.b,Jq n.Zn.l v⟩ },[⟨3,n.me,to,Y2,v,[]⟩],[]⟩;refine .one (base { ZE n with Zn:=⟨v.b,Jq n.Zn.l v⟩ } rfl B z rfl rfl rfl rfl rfl fun r e=>rr { ZE n with Zn:=⟨v.b,Jq n.Zn.l v⟩ } rfl rfl r (D r e)) o ⟨fun e=>(by cases e),fun e=>(by cases e),fun _=>?_,fun e=>(by cases e),fun e=>(by cases e)⟩
  grind
 | Zn a vs cur=>
  obtain⟨b,rfl,rfl,I,H⟩:=f;show HR S g' M' i ⟨{ ZE n with Zn:=⟨b,n.Zn.l⟩,Zc:=if cur=true then (ZE n).Zc.map (fun r=>{ r with c:=ins r.c (ZE n).me n.Zn.l }) else (ZE n).Zc },[],[]⟩;refine .same (base { ZE n with Zn:=⟨b,n.Zn.l⟩,Zc:=if cur=true then (ZE n).Zc.map (fun r=>{ r with c:=ins r.c (ZE n).me n.Zn.l }) else (ZE n).Zc } rfl B z rfl rfl rfl rfl rfl fun r e=>?_) o
  cases hc:cur with
  | false=>
   grind [ZE]
  | true=>
   let⟨u,t,qN⟩:=H hc;have e:(if cur=true then (ZE n).Zc.map (fun r=>{ r with c:=ins r.c (ZE n).me n.Zn.l }) else (ZE n).Zc)=Z r:=e;rw[hc,if_pos rfl,show (ZE n).Zc=n.Zc from rfl,t]at e;obtain rfl:=aag e;have R:=D u t;have R2:RR g' M' i n { u with c:=ins u.c ((n.me:Nat):Int) n.Zn.l }:=by
    refine⟨R.ZM,R.may,fun j vs q=>?_,R.pn,R.pr,R.safe,R.free,R.Xc⟩;have q:YF (ins u.c ((n.me:Nat):Int) n.Zn.l) j=Z vs:=q;rw[XQ]at q;split at q
    .rename_i W
     cases q
     rw[<-W,aw,V];have:PF g' M' i b n.Zn.l:=pf
     grind
    .exact R.c j vs q
   grind [ZE]
def FL(hi:i<5)(G:GI S g M):∀(k:List Yt) (n:Nd),NR S g M i n->n.up=true->n.Zo=aa->JZ C i n->(∀l∈k,Qt C l/\LR S g M l) ->
  HR S g M i (Zw n k)/\JZ C i (Zw n k).n/\(∀l∈(Zw n k).n.Zd,LR S g M l):=by
 intro k
 induction k with
 | nil=>
  intro n N t B o _;unfold Zw;exact⟨.same (N.box []) t,{ o with },fun l J=>by cases J⟩
 | cons l k F=>
  intro n N t B o f;unfold Zw;rw[if_neg zK];have H:=i7 hi G (N.box k) t B (o.Zd k) (f l zX).1 (f l zX).2;have I:=(NJ hi (o.Zd k) (f l zX).1).nd;let⟨m,D⟩:=ZO ((Zy { n with Zd:=k } l).n);have A:=H.n;have z:=H.up;rw[<-D]at A z I;rw[<-D];by_cases u:m.Zo=aa
  .let⟨E,R,O⟩:=F m A z u I (fun x h=>f x (by simp[h]));refine⟨⟨E.n,E.up,fun x h=>?_⟩,R,O⟩
   grind [HR.ls]
  .have V:m.Zo.isSome=true:=by
    cases q:m.Zo with
    | none=>grind
    | some _=>rfl
   have key:(Zw m k).n = { m with Zd:=k }/\(Zw m k).ls=[]:=by
    cases k with
    | nil=>unfold Zw;grind
    | cons a k=>unfold Zw;grind
   rw[key.1,key.2];refine⟨⟨A.box k,z,fun x h=>?_⟩,I.Zd k,fun x h=>(f x (by
    grind)).2⟩
   grind [HR.ls]
end
structure TS(S:Cm->Prop)(g:Gh)(M:Nat->ZN)(i:Nat)(o:Out)(g':Gh)(M':Nat->ZN):Prop where
 e:Ext i g M g' M'
 a:GI S g' M'
 n:NR S g' M' i o.n
 ls:∀l∈o.ls,LR S g' M' l
 JC:∀l∈o.n.Zd,LR S g' M' l
section
variable {S:Cm->Prop} {g:Gh} {M:Nat->ZN} {i:Nat} {n:Nd}
def TS.Zt(G:GI S g M)(N:NR S g M i n)(hb:∀l∈n.Zd,LR S g M l):TS S g M i ⟨n,[],[]⟩ g M:=⟨Ext.refl _ _ _,G,N,(fun l a=>by cases a),hb⟩
def ZlZ(hi:i<5)(G:GI S g M)(N:NR S g M i n)(hC:(U C)<=100000)(h:JZ C i n)(m:∀l∈n.Zd,Qt C l/\LR S g M l):∃g' M',TS S g M i (step n) g' M':=by
 unfold step;split
 .rename_i z;split
  .rename_i p f;let⟨g',M',E,t,H⟩:=ZdP hi G N z h.me f;have u:=(Dq hi (Dp h) (h.Zo p f)).2.2.1;refine⟨g',M',E,t,H.n,H.ls,fun l a=>?_⟩;rw[u]at a;exact (m l a).2.ext E
  .rename_i f;let⟨H,I,B⟩:=FL hi G n.Zd n N z f h m;split
   .exact⟨g,M,Ext.refl _ _ _,G,H.n,H.ls,B⟩
   .rename_i A;have o:(Zw n n.Zd).n.Zo=aa:=by
     cases q:(Zw n n.Zd).n.Zo with
     | none=>rfl
     | some _=>grind
    let⟨g',M',E,t,D⟩:=ZdN hi G H.n H.up o I;have u:=(oK hi hC I).2.2.1;refine⟨g',M',E,t,D.n,fun l a=>?_,fun l a=>?_⟩
    .grind [LR.ext,HR.ls]
    grind [LR.ext]
 .exact⟨g,M,.Zt G N fun l a=>(m l a).2⟩
def Zl0(hi:i<5)(G:GI S g M)(N:NR S g M i n)(B:JZ C i n):NR S g M i (lead n):=by
 unfold lead;split
 .exact N
 .rename_i q;have z:n.up=true:=by
   cases e:n.up with
   | true=>rfl
   | false=>grind
  have I:=Yd z;have H:=N.m;rw[I]at H;have hr:¬65536<(Yl n).r:=fun e=>q (.inr e);have R:=B.Zn.ye.1;have u:n.Zn.p.r<(Yl n).r/\1<=(Yl n).r:=by
   unfold Yl;simp only;split<;>omega
  have o:∀s x,¬g.P (Yl n) s x:=fun s x h=>by
   have:=G.Zn _ _ _ h
   grind [Zj,Yl,JZ.me]
  have J:(Yl n).n=i:=by rw[show (Yl n).n=((n.me:Nat):Int) from rfl,B.me]
  refine⟨N.acc,N.m,⟨fun A t=>N.tape.idle A ?_,fun A p m=>?_,fun h=>?_,N.tape.len⟩,fun p m=>?_,N.Zi,N.ZF,N.b,fun r e=>?_⟩
  .have t:XM n.Zo=aa:=t
   cases e:n.Zo with
   | none=>rfl
   | some p=>rw[e]at t;cases p<;>cases t
  .have m:XM n.Zo=Z p:=m
   cases e:n.Zo with
   | none=>rw[e]at m;cases m
   | some p0=>
    let⟨d,f,F,E,D,O⟩:=N.tape.busy z p0 e;refine⟨d,f,F,E,D,?_⟩;have:YM p=YM p0:=by
     rw[e]at m
     cases p0<;>cases m<;>rfl
    grind
  .grind
  .have m:XM n.Zo=Z p:=m
   cases e:n.Zo with
   | none=>rw[e]at m;cases m
   | some p0=>
    have P:=N.Zo p0 e;rw[e]at m
    cases p0 with
    | QB a to b vs=>cases m;exact P
    | Us a to v=>cases m;exact P
    | Zn a vs cur=>
     grind [XM,PR]
  .obtain rfl:=aag e;exact⟨J,⟨⟨u.2,zK⟩,zK⟩,fun j vs h=>(by cases h),fun _ s x=>o s x,fun s x h=>(o s x h).elim,fun s x h=>(by cases h),fun h=>(by cases h),fun s K j h=>by cases h⟩
theorem FM{A:QT}{up:Bool}{d:List Nat}{z:Int}(h:AR g i (YY (ZZ i up d z A)))(f:M i=(YY (ZZ i up d z A)).p)(a:TR (ZZ i up d z A)):NR S g M i (ZZ i up d z A):=
 ⟨h,f,a,fun p e=>(by cases e),fun s x e=>(by cases e),fun k x e=>(by simp[ZZ]at e),fun x e=>(by cases e),fun r e=>by cases e⟩
def M7(i:Nat)(n:Nd)(Zh:Int)(a:n.up=true):∃d z,Y4 i n Zh=ZZ i false d z Qj:=by
 unfold Y4;rw[if_pos a];split
 .grind
 grind
def yF(G:GI S g M)(N:NR S g M i n)(hb:∀l∈n.Zd,LR S g M l){Zh:Int}(F:0<=Zh):∃g' M',TS S g M i ⟨Y4 i n Zh,[],[]⟩ g' M':=by
 cases h:n.up with
 | false=>
  have:Y4 i n Zh=n:=by unfold Y4;rw[if_neg zK]
  rw[this];exact⟨g,M,.Zt G N hb⟩
 | true=>
  let⟨m,B,a⟩:=Dv N.tape h F (i:=i);let⟨d,z,e⟩:=M7 i n Zh h;rw[e]at m B a ⊢;have H:=Yd h;rcases a with a|⟨p,D,a⟩
  .have u:=N.acc;have t:=N.m;rw[H,<-a]at u t;exact⟨g,M,.Zt G (FM u t m) (fun l f=>by cases f)⟩
  .let⟨g',M',E,I,A,o,_,_⟩:=ZdO G N h D;rw[<-a]at A o;exact⟨g',M',E,I,FM A o m,(fun l f=>by cases f),fun l f=>by cases f⟩
def yG(N:NR S g M i n):NR S g M i (started i n):=by
 cases a:n.up with
 | true=>
  grind [started]
 | false=>
  let⟨m,h,f⟩:=Dw N.tape a (i:=i)
  grind [NR.acc,NR.m,started,Yd,FM]
end
structure TI(S:Cm->Prop)(g:Gh)(M:Nat->ZN)(w:Wd):Prop where
 a:GI S g M
 nd:∀i,i<5->NR S g M i (w.Za i)
 WM:∀l∈w.b,LR S g M l
 JC:∀i,i<5->∀l∈(w.Za i).Zd,LR S g M l
section
variable {S:Cm->Prop} {g:Gh} {M:Nat->ZN} {w:Wd}
def TI.out(T:TI S g M w){i:Nat}{o:Out}{g':Gh}{M':Nat->ZN}(h:TS S g M i o g' M'):TI S g' M' (w.out i o):=by
 unfold Wd.out;refine⟨h.a,fun j f=>?_,fun l a=>?_,fun j f l a=>?_⟩
 .by_cases e:j=i
  .subst e;simpa using h.n
  .simp only[if_neg e];exact (T.nd j f).ext h.e e
 .rcases ax.1 a with a|a
  .exact (T.WM l a).ext h.e
  .exact h.ls l a
 .by_cases e:j=i
  .subst e;simp only[if_true]at a;exact h.JC l a
  .simp only[if_neg e]at a;exact (T.JC j f l a).ext h.e
theorem ZdQ(T:TI S g M w){l:Yt}(h:LR S g M l)(f:0<=l.to/\l.to<5):TI S g M (XN w l):=by
 unfold XN;split
 .refine⟨T.a,fun i hi=>?_,T.WM,fun i hi x a=>?_⟩
  .grind [Wd.set,NR.box,TI.nd]
  .unfold Wd.set at a
   grind [TI.JC]
 .exact T
def ZhU:∀(ls:List Yt) (w:Wd),TI S g M w->(∀l∈ls,LR S g M l/\0<=l.to/\l.to<5)->TI S g M (ls.foldl XN w):=by
 intro ls
 induction ls with
 | nil=>grind
 | cons l ls a=>grind [ZdQ]
def TI.Zjs(T:TI S g M w){fl:List Yt}(h:∀l∈fl,l∈w.b):TI S g M { w with b:=fl }:=⟨T.a,T.nd,fun l a=>T.WM l (h l a),T.JC⟩
def AD(hC:(U C)<=100000){k:Nat}(W:WI C k w)(T:TI S g M w)(a:Ac)(hi:a.ZM<5)(z:0<=a.Zh)(hS:∀now:Nat,a.a=1->Xl a.data now=0->S (JL a.data now)):
  ∃g' M',(∀j b s x,g.V j b s x->g'.V j b s x)/\TI S g' M' (act w a):=by
 have same:∀{v:Wd},TI S g M v->∃g' M',(∀j b s x,g.V j b s x->g'.V j b s x)/\TI S g' M' v:=fun h=>⟨g,M,fun _ _ _ _ h=>h,h⟩
 have N:=T.nd a.ZM hi;have t:=W.nd a.ZM hi;unfold act;split
 .rename_i o;refine same ?_;unfold Wj;split
  .split
   .exact⟨T.a,T.nd,T.WM,T.JC⟩
   .rename_i q;split
    .exact⟨T.a,T.nd,T.WM,T.JC⟩
    .rw[Re];have m:=hS _ o (by simpa using q);let⟨A,_,_⟩:=Zjq N m;have B:(add (w.Za a.ZM) (JL a.data (w.Za a.ZM).ZF.length)).Zd=(w.Za a.ZM).Zd:=by unfold add;split<;>rfl
     refine T.out ⟨Ext.refl _ _ _,T.a,?_,(fun l f=>by cases f),fun l f=>?_⟩
     .unfold VT;simp only;split
      .exact A
      .exact⟨A.acc,A.m,⟨A.tape.idle,A.tape.busy,A.tape.down,A.tape.len⟩,fun p e=>(by have:=A.Zo p e;cases p<;>exact this),A.Zi,A.ZF,A.b,fun r e=>by
        have R:=A.Zc r e;exact⟨R.ZM,R.may,R.c,R.pn,R.pr,R.safe,R.free,R.Xc⟩⟩
     grind [VT,TI.JC]
  .exact T
 split
 .refine same ?_;rw[Re];refine T.out ⟨Ext.refl _ _ _,T.a,Zl0 hi T.a N t,(fun l f=>by cases f),fun l f=>?_⟩
  grind [lead,TI.JC]
 split
 .let⟨g',M',h⟩:=ZlZ hi T.a N hC t (fun l f=>⟨W.JC _ hi l f,T.JC _ hi l f⟩);exact⟨g',M',h.e.v,T.out h⟩
 split
 .refine same ?_;unfold pick;split
  .exact T
  .rename_i l f;have u:l∈w.b:=List.mem_of_getElem? f;have E:=T.Zjs (fl:=w.b.eraseIdx (a.at'%w.b.length)) (fun x m=>List.mem_of_mem_eraseIdx m);have D:=(W.WM l u).to
   grind [ZdQ,TI.WM]
 split
 .exact same (ZhU _ _ (T.Zjs (fl:=[]) (fun l f=>by cases f)) (fun l f=>⟨T.WM l f,(W.WM l f).to⟩))
 split
 .let⟨g',M',h⟩:=yF T.a N (T.JC _ hi) z;rw[Re];exact⟨g',M',h.e.v,T.out h⟩
 .refine same ?_;rw[Re];refine T.out ⟨Ext.refl _ _ _,T.a,yG N,(fun l f=>by cases f),fun l f=>?_⟩;rcases (Aw t (i:=a.ZM)).2 with⟨q,_⟩|q
  .grind
  grind [TI.JC]
def gh0:Gh:=⟨fun _ _ _ _=>False,fun _ _ _=>False⟩
def NQ:TI S gh0 (fun _=>Y2) Qf:=by
 refine⟨⟨fun _ _ _ _ h=>h.elim,fun _ _ _ _ h=>h.elim,fun _ _ _ _ h=>h.elim,fun _ _ _ h=>h.elim,fun _ _ _ h=>h.elim,fun _ _ _ h=>h.elim,fun _ _ _ h=>h.elim⟩,fun i hi=>?_,(fun l a=>by cases a),fun i hi l a=>by cases a⟩;exact FM ⟨fun v f=>(by cases f),fun _ _ _ h=>h.elim⟩ rfl (ZdI i)
def C8(S:Cm->Prop)(C:List Cm)(a:Ac):Prop:=(a.ZM<5/\WY a.data∈C)/\0<=a.Zh/\∀now:Nat,a.a=1->Xl a.data now=0->S (JL a.data now)
def Dx(hC:(U C)<=100000):∀(l:List Ac) (k:Nat) (w:Wd) (g:Gh) (M:Nat->ZN),WI C k w->TI S g M w->(∀a∈l,C8 S C a) ->
  ∃g' M',(∀j b s x,g.V j b s x->g'.V j b s x)/\TI S g' M' (l.foldl act w)/\WI C (k+(U l)) (l.foldl act w):=by
 intro l
 induction l with
 | nil=>grind
 | cons a l m=>
  intro k w g M W T h;let⟨f,u,t⟩:=h a zX;let⟨g1,M1,v1,z⟩:=AD hC W T a f.1 u t;let⟨B,M2,A,E,D⟩:=m (k+1) (act w a) g1 M1 (Dt hC W a f.1 f.2) z (fun x o=>h x (by simp[o]))
  grind
def Dy(hC:(U C)<=100000)(l:List Ac)(o:∀a∈l,C8 S C a)(p q:Nat)(f:p<=q)(i j:Nat)(hi:i<5)(E:j<5)(s:Nat)(x y:Cm)(A:((Tx (l.take p)).Za i).ZF[s]? = Z x)(z:((Tx (l.take q)).Za j).ZF[s]? = Z y):x=y:=by
 let⟨g1,M1,_,t,N⟩:=Dx hC (l.take p) 0 Qf gh0 (fun _=>Y2) (VV C) NQ (fun a h=>o a (a7 h));have e:l.take q=l.take p++(l.take q).drop p:=by
  have:=(List.take_append_drop p (l.take q)).symm
  rwa [List.take_take,Nat.min_eq_left f]at this
 let⟨O,M2,u,m,_⟩:=Dx hC ((l.take q).drop p) _ (Tx (l.take p)) g1 M1 N t (fun a h=>o a (a7 (List.mem_of_mem_drop h)));have H:Tx (l.take q)=((l.take q).drop p).foldl act (Tx (l.take p)):=by
  conv=>lhs;rw[e]
  unfold Tx;rw[a9]
 rw[<-H]at m;have J:=(t.nd i hi).ZF s x A;have I:=(m.nd j E).ZF s y z;let⟨Q,b,F,B⟩:=J;exact J9.one m.a ⟨Q,b,F,fun k D=>u _ _ _ _ (B k D)⟩ I
def ZdR(hC:(U C)<=100000)(l:List Ac)(o:∀a∈l,C8 S C a)(i:Nat)(hi:i<5)(x:Cm)(h:x∈((Tx l).Za i).ZF):x=Ag\/S x:=by
 let⟨g1,M1,_,f,u⟩:=Dx hC l 0 Qf gh0 (fun _=>Y2) (VV C) NQ o;obtain⟨s,m,rfl⟩:=List.mem_iff_getElem.1 h;have t:=(f.nd i hi).ZF s _ (aX m);let⟨b,hb⟩:=t.ZQ f.a;exact f.a.cmd _ _ _ hb
end
set_option maxRecDepth 100000
theorem yH(g:Gr):(PQ g).length<=63:=by
 unfold PQ ZlU;split
 .unfold xm;have:=Zcy (VQ (gCm g).c.toNat) (UY g.a 1000).toNat (ZgS (zU g) (zW g) 60 (gCm g).k (gCm g).c (gCm g).s (gCm g).n (gCm g).v)
  grind [ZgS,Gk,ZV]
 .simp
def yI(g:Gr):(NL g).length<=63:=by
 grind [yH,NL]
def ZdS(g:Gr)(f:Bool):(VW g f).err=0:=by
 have F:=WB g.a (m:=5) uh;have E:=WB g.c (m:=20) uh;have D:=WB g.c (m:=90) uh;have B:=yI g;have mk:∀(k n a b:Int) (len:Nat),(1<=k/\k<=9)->(JQ k/\(0<=n/\n<=4)\/¬JQ k/\n=0)->(WP k/\(0<=a/\a<=1048576)\/¬WP k/\a=0)->(k=8/\(0<=b/\b<=100000)\/k≠8/\b=0)->len<=2000->(k=1\/len=0)->WQ k n a b len=0:=fun k n a b len A z u t o h=>by
  grind [WQ]
 unfold VW
 repeat' split
 all_goals
  unfold Raw.err;refine mk _ _ _ _ _ ?_ ?_ ?_ ?_ ?_ ?_
 all_goals simp[JQ,WP]
 all_goals omega
def ZdT(o:List Gr)(f:Bool):∀j,∀x∈(NO o f j).2,x.err=0:=by
 have key:∀(l:List Gr) (st:Nat × List Raw),(∀x∈st.2,x.err=0)->∀x∈(l.foldl (WZ f) st).2,x.err=0:=by
  intro l
  induction l with
  | nil=>grind
  | cons g l m=>
   intro st h;refine m _ (fun x a=>?_);unfold WZ at a;rcases ax.1 a with a|a
   .exact h x a
   .rw[am.1 a];unfold NN;split
    .rfl
    .exact ZdS g f
 intro j;exact key _ _ (fun x a=>by cases a)
def ZhV(a:List Gr)(h:Nat)(f:Bool):∀x∈scr a h f,x.err=0:=ZdT a f h
def ZhW(f:List Gr)(a:Nat)(h:Bool):(scr f a h).length<=a:=by
 grind [scr,Du,iZ]
def ja(h:∀x∈l,x.err=0)(a:(U l)<=100000):RO l=0:=by
 grind [RO,NK]
def pj{A:List Raw}(I:∀x∈A,x.err=0)(H:(U A)<=100000)(p q i j:Nat)(hi:i<5)(D:j<5)(s:Nat)(x y:Cm)(o:((Qv (A.take p)).Za i).ZF[s]? = Z x)(m:((Qv (A.take q)).Za j).ZF[s]? = Z y):x=y:=by
 let⟨f,t⟩:=ZO (A.map Raw.ac);obtain⟨C,hC⟩:∃C,C=A.map fun x=>WY x.data:=⟨_,rfl⟩
 have u:(U C)<=100000:=by rw[hC,a2];exact H
 have ok:∀a∈f,C8 (fun _=>True) C a:=fun a E=>by
  rw[t]at E;obtain⟨z,B,rfl⟩:=aC.1 E;let⟨_,J,_,F,_⟩:=Ox (I z B);refine⟨⟨by unfold Raw.ac;grind,?_⟩,F.1,fun _ _ _=>trivial⟩;rw[hC];exact aC.2 ⟨z,B,rfl⟩
 have e:∀p,Qv (A.take p)=Tx (f.take p):=fun p=>by unfold Qv;rw[List.map_take,t]
 rw[e]at o m;rcases Nat.le_total p q with h|h
 .exact Dy u f ok p q h i j hi D s x y o m
 .exact (Dy u f ok q p h j i D hi s y x m o).symm
def ZhX{A:List Raw}(t:∀x∈A,x.err=0)(m:(U A)<=100000)(i:Nat)(hi:i<5):((Qv A).Za i).ZF.length<=40:=by
 obtain⟨C,hC⟩:∃C,C=A.map fun x=>WY x.data:=⟨_,rfl⟩
 have f:(U C)<=100000:=by rw[hC,a2];exact m
 have:=oU f (A.map Raw.ac) 0 Qf (VV C) (fun a o=>by
  obtain⟨z,h,rfl⟩:=aC.1 o;let⟨_,u,_,_,_⟩:=Ox (t z h)
  grind [Raw.ac])
 exact (this.nd i hi).LA
def JU(f:Hp)(o:Ow)(g:Hp)(v:ao)(l:List Raw):Prop:=
 Kp (fun t=>t=.ZF 100) Mx f o g/\∃a,Xx a=l/\Xk o (.ZF 100) 41 5 g v (U a) (ZW Uq a)/\∀y∈a,Rb o g y.2 y.1.data
def JU.nil(a:Hp):JU a Mx a (ak aa 0 0) []:=⟨Kp.refl (Hl a) _,[],rfl,Xk.nil _ _ _ _ _,fun y f=>by cases f⟩
def JU.ZR{a:Hp}{o:Ow}{g:Hp}{v:ao}(A:JU a o g v l):∃p c,v=ak p (U l) c/\(U l)<=c:=by
 grind [Xx,JU,Xk.ZR]
def JU.done{h:Hp}{o:Ow}{g:Hp}{v:ao}(A:JU h o g v l):Zm h.size h g/\RT v/\∃a,Xx a=l/\Ts Uq 5 g v a/\∀y∈a,Rb Mx g y.2 y.1.data:=by
 let⟨p,c,m,hc⟩:=A.ZR;let⟨K,a,hr,O,I⟩:=A;exact⟨Hm K,by rw[m];exact hc,a,hr,⟨O.sl⟩,fun y f=>⟨⟨(I y f).1.sl,(I y f).1.fits,fun b hb=>⟨((I y f).1.free b hb).1,rfl⟩⟩,(I y f).2⟩⟩
def ZdU:∀(xs:List (Raw × ao)),(∀x∈xs,∃p n c,x.2=ak p n c)->(ZW Uq xs).all YV=true:=by
 intro xs
 induction xs with
 | nil=>intro _;rfl
 | cons x xs a=>
  intro h;let⟨p,n,c,e⟩:=h x zX;have m:=a (fun y f=>h y (by simp[f]));rw[show ZW Uq (x :: xs)=Uq x++ZW Uq xs from rfl,List.all_append,m];unfold Uq;rw[e];rfl
section
variable {T:World} {K:ao->Hp->Prop} {ty:TypeId} {cb:Array Bool}
def JU.MH{N:Hp}{o:Ow}{g:Hp}{v:ao}(A:JU N o g v l)(hl:(U l)<=1000000000)(X:Raw)(q:Option Addr)(a:Nat)(im:Rb o g (ak q (U X.data) a) X.data)(H:∀D J g',JU N J g' D (l++[X])->Kp RM o g J g'->K D g'):OV aL T .append #[23,23] ty cb [v,ak (Z ⟨g.size,0,aa⟩) 1 1] K (g.push (aI #[al ae X.k,al ae X.n,al ae X.a,al ae X.b,ak q (U X.data) a] 41)):=by
 let⟨V,t,hr,O,I⟩:=A;have yl:(U t)=(U l):=by rw[<-hr];unfold Xx;simp
 let⟨z,B⟩:=ZO (g.push (aI (Ob X.k X.n X.a X.b (ak q (U X.data) a)).toArray 41):Hp);have h:Kp WL o g o z:=by rw[B];exact YK V.YG _
 have x6:z[g.size]? = Z (aI (Ob X.k X.n X.a X.b (ak q (U X.data) a)).toArray 41):=by rw[B];exact Zf
 have src:Sl 5 z (ak (Z ⟨g.size,0,aa⟩) 1 1) 1 (Ob X.k X.n X.a X.b (ak q (U X.data) a)):=⟨_,1,rfl,rfl,fun _=>⟨g.size,0,rfl,fun i hi=>by
  grind [hc]⟩⟩
 have O6:=O.Zh h (fun q=>q);show OV aL T .append #[23,23] ty cb [v,ak (Z ⟨g.size,0,aa⟩) 1 1] K (g.push (aI (Ob X.k X.n X.a X.b (ak q (U X.data) a)).toArray 41));rw[<-B];refine QM (E:=41) (n:=5) (bytes:=56) (k:=1) Zbn ba Zka Zkc rfl Zkb O6 h.YG src rfl uh uh ?_;intro W F R O7 f _;have f:Kp (fun u=>u=.ZF 100) o z F R:=f;refine H W F R ⟨(V.trans (Ya h)).trans f,t++[(X,ak q (U X.data) a)],?_,?_,fun y m=>?_⟩ (Y9 ((Ya h).trans f))
 .grind [Xx]
 .have e:ZW Uq (t++[(X,Value.slice q (U X.data) a)])=ZW Uq t++Ob X.k X.n X.a X.b (ak q (U X.data) a):=by rw[Xd,VH];rfl
  grind
 .rcases ax.1 m with m|m
  .exact ((I y m).Zh h).Zh f
  .rw[am.1 m];exact (im.Zh h).Zh f
def JU.add{m:Hp}{o:Ow}{g:Hp}{v:ao}(A:JU m o g v l)(u:(U l)<=1000000000)(k n a b:Int)(H:∀f h g',JU m h g' f (l++[⟨k,n,a,b,[]⟩])->K f g'):OV aL T .append #[23,23] ty cb [v,ak (Z ⟨g.size,0,aa⟩) 1 1] K (g.push (aI #[al ae k,al ae n,al ae a,al ae b,ak aa 0 0] 41)):=
 A.MH u ⟨k,n,a,b,[]⟩ aa 0 ⟨Im.nil _ 1 _ aa,fun x t=>by cases t⟩ (fun f h g' z _=>H f h g' z)
def JU.ZdV{h:Hp}{o:Ow}{g:Hp}{v:ao}(A:JU h o g v l)(hl:(U l)<=1000000000){u:ao}{xs:List (Raw × ao)}(R:Ts Uq 5 g u xs)(N:∀x∈xs,Rb Mx h x.2 x.1.data)(dp:(U xs)<=1000000000)(H:∀t J g',JU h J g' t (l++Xx xs)->K t g'):OV aL T .append #[23,23] ty cb [v,u] K g:=by
 let⟨D,m,hr,O,I⟩:=A;have W:(U m)=(U l):=by rw[<-hr];unfold Xx;simp
 refine QM (E:=41) (n:=5) (bytes:=56) (k:=(U xs)) Zbn ba Zka Zkc rfl Zkb O D.YG R.sl ?_ uh uh ?_
 .exact ZdU xs (fun x f=>by
   let⟨p,c,e⟩:=(N x f).1.ZR
   grind)
 intro F z B V a _;have a:Kp (fun u=>u=.ZF 100) o g z B:=a;refine H F z B ⟨D.trans a,m++xs,?_,?_,fun y hy=>?_⟩
 .rw[<-hr];unfold Xx;grind
 .rw[Xd,aq];exact V
 grind [Rb.Zh]
end
def QF(n m:Nd):Prop:=m.up=n.up/\m.me=n.me/\∃e,m.ZF=n.ZF++e
theorem QF.refl(n:Nd):QF n n:=⟨rfl,rfl,[],zX⟩
theorem QF.trans{a b c:Nd}(h:QF a b)(f:QF b c):QF a c:=by
 grind [QF]
theorem QF.same{m:Nd}(h:m.up=n.up)(f:m.me=n.me)(a:m.ZF=n.ZF):QF n m:=⟨h,f,[],by rw[a];simp⟩
def cI:∀(k:Nat) (n:Nd),QF n (YA k n).1:=by
 intro k
 induction k with
 | zero=>intro n;exact .refl n
 | succ k a=>
  intro n;unfold YA;split
  .exact .refl n
  .rename_i x _;exact QF.trans (b:=XF n x) ⟨rfl,rfl,[x],rfl⟩ (a _)
theorem Dz(n:Nd)(s:Int)(x:Cm):QF n (Jj n s x).n:=by
 unfold Jj;exact QF.trans (b:=X6 n s x) (.same rfl rfl rfl) (cI _ _)
theorem po(n:Nd)(l:Yt):QF n (XL n l):=by
 grind [XL,QF.same]
theorem ZdW(n:Nd)(x:Cm):QF n (add n x):=by
 grind [add,QF.same]
def jc(n:Nd)(l:Yt):QF n (Zy n l).n:=by
 unfold Zy;split
 .grind [Y3,QF.same]
 split
 .unfold YI;split
  .exact .refl n
  .rename_i r _;split
   .grind [C0,QF.same]
   .split
    .exact .refl n
    grind [QF,Vc,QF.same,Dz]
 split
 .grind [asked,QF.same]
 grind [Q3,po,Dz,ZdW]
theorem py:∀(k:List Yt) (n:Nd),QF n (Zw n k).n:=by
 intro k
 induction k with
 | nil=>intro n;unfold Zw;exact .same rfl rfl rfl
 | cons l k a=>
  intro n;unfold Zw;split
  .exact .same rfl rfl rfl
  .exact QF.trans (b:={ n with Zd:=k }) (.same rfl rfl rfl) (QF.trans (jc _ l) (a _))
theorem yJ(n:Nd)(r:XR):QF n (Jc n r).n:=by
 grind [Jc,QF.same]
theorem pA(n:Nd):QF n (Zt n):=by
 grind [Zt,QF.same]
theorem pB(n:Nd):QF n (Yj n).n:=by
 grind [Yj,yJ,QF.refl]
theorem yK(n:Nd):QF n (YH n).n:=by
 grind [QF.trans,pA,pB,YH,JT,QF.same]
theorem jd(n:Nd)(p:OT):QF n (Yc (ZE n) p).n:=by
 cases p<;>exact .same rfl rfl rfl
theorem Hr(n:Nd):QF n (step n).n:=by
 unfold step;split
 .grind [jd,QF.trans,py,yK]
 .exact .refl n
def GF(w:Wd):Prop:=∀i,(w.Za i).up=false->(w.Za i).ZF=[]
def Still(n m:Nd):Prop:=m.up=n.up/\m.me=n.me/\m.ZF=n.ZF
theorem Still.refl(n:Nd):Still n n:=⟨rfl,rfl,rfl⟩
def Still.trans{a b c:Nd}(h:Still a b)(f:Still b c):Still a c:=⟨by rw[f.1,h.1],by rw[f.2.1,h.2.1],by rw[f.2.2,h.2.2]⟩
def LF(w:Wd)(l:Yt)(i:Nat):Still (w.Za i) ((XN w l).Za i):=by
 grind [Still,XN,Wd.set]
def je:∀(ls:List Yt) (w:Wd) (i:Nat),Still (w.Za i) ((ls.foldl XN w).Za i):=by
 intro ls
 induction ls with
 | nil=>intro w i;exact .refl _
 | cons l ls a=>intro w i;exact Still.trans (LF w l i) (a _ i)
theorem AE(w:Wd)(l:Yt):(XN w l).ZH=w.ZH/\(XN w l).YP=w.YP/\(XN w l).b=w.b:=by
 grind [XN,Wd.set]
def LG:∀(ls:List Yt) (w:Wd),(ls.foldl XN w).ZH=w.ZH/\(ls.foldl XN w).YP=w.YP/\(ls.foldl XN w).b=w.b:=by
 intro ls
 induction ls with
 | nil=>grind
 | cons l ls a=>
  grind [AE]
theorem NU(w:Wd)(k:Nat)(n:Nd)(i:Nat):((w.set k n).Za i)=if i=k then n else w.Za i:=rfl
theorem jf(w:Wd)(k:Nat)(o:Out)(i:Nat):((w.out k o).Za i)=if i=k then o.n else w.Za i:=rfl
def cJ(w:Wd)(k:Nat)(data:List Nat)(i:Nat):Still (w.Za i) ((Wj w k data).Za i):=by
 grind [Still,Wj,VT,add,NU]
def pC(w:Wd)(k:Nat)(c s:Bool)(i:Nat):Still (w.Za i) ((pick w k c s).Za i):=by
 unfold pick;split
 .exact .refl _
 .split
  .split
   .exact LF _ _ _
   .exact LF { w with b:=_ } _ _
  .split
   .exact .refl _
   .exact .refl _
def DA(w:Wd)(a:Ac)(i:Nat):
  (a.a=8/\a.ZM=i/\(act w a).Za i=Y4 i (w.Za i) a.Zh) \/
  (¬(1<=a.a/\a.a<=8)/\a.ZM=i/\(act w a).Za i=started i (w.Za i)) \/
  (a.a=3/\a.ZM=i/\(w.Za i).up=true/\QF (w.Za i) ((act w a).Za i)) \/
  Still (w.Za i) ((act w a).Za i):=by
 unfold act;split
 .exact .inr (.inr (.inr (cJ _ _ _ _)))
 split
 .grind [lead,Still,NU]
 split
 .grind [step,jf,Still.refl,Hr]
 split
 .exact .inr (.inr (.inr (pC _ _ _ _ _)))
 split
 .exact .inr (.inr (.inr (je w.b { w with b:=[] } i)))
 grind [NU,Still.refl]
theorem NW(i:Nat)(n:Nd)(k:Int):(n.up=true/\(Y4 i n k).up=false/\(Y4 i n k).ZF=[])\/(n.up=false/\Y4 i n k=n):=by
 grind [Y4,ZZ]
theorem Rg(i:Nat)(n:Nd):(n.up=true/\started i n=n)\/(n.up=false/\(started i n).up=true/\(started i n).ZF=[]):=by
 grind [started,ZZ]
def jg{w:Wd}(h:GF w)(a:Ac):GF (act w a):=fun i hi=>by
 rcases DA w a i with⟨_,_,e⟩|⟨_,_,e⟩|⟨_,_,q,o,_⟩|⟨o,_,m⟩
 .rw[e]at hi ⊢;rcases NW i (w.Za i) a.Zh with⟨_,_,q⟩|⟨f,q⟩
  .exact q
  .rw[q];exact h i f
 .grind [started,Rg]
 .grind
 .rw[m];exact h i zK
def jh:GF Qf:=fun i hi=>by cases hi
def ZdX{w:Wd}(h:GF w)(a:Ac)(i:Nat)(m:1<=a.a/\a.a<=9):
  (a.a=8/\a.ZM=i->(w.Za i).up=true->((act w a).Za i).ZF=[]) /\
  (¬(a.a=8/\a.ZM=i)->(w.Za i).ZF.length<=((act w a).Za i).ZF.length/\((w.Za i).ZF.length<((act w a).Za i).ZF.length->a.a=3/\a.ZM=i)):=by
 rcases DA w a i with⟨k,e,q⟩|⟨k,e,q⟩|⟨k,e,f,_,_,x,q⟩|⟨_,_,q⟩
 .grind [NW]
 .refine⟨fun h=>uh,fun _=>?_⟩;rw[q];rcases Rg i (w.Za i) with⟨_,q⟩|⟨f,_,q⟩
  .grind
  .rw[q,h i f];grind
 .grind
 grind [act,NU,NW]
def ji(l:List Ac):GF (Tx l):=by
 have:∀(l:List Ac) (w:Wd),GF w->GF (l.foldl act w):=by
  intro l
  induction l with
  | nil=>grind
  | cons a l f=>intro w h;exact f _ (jg h a)
 exact this l _ jh
def Zl1(w:Wd)(a:Ac)(i:Nat)(h:a.a≠8):((w.Za i).up=true->((act w a).Za i).up=true)/\(a.a=9->a.ZM=i->((act w a).Za i).up=true):=by
 rcases DA w a i with⟨k,_,_⟩|⟨k,e,q⟩|⟨k,_,f,q,_⟩|⟨q,_⟩
 .grind
 .grind [Rg]
 .grind
 grind [act,NU,Rg]
def Zl2(i:Nat):∀(l:List Ac) (w:Wd),(∀a∈l,a.a≠8)->((w.Za i).up=true\/∃a∈l,a.a=9/\a.ZM=i)->((l.foldl act w).Za i).up=true:=by
 intro l
 induction l with
 | nil=>
  grind
 | cons a l m=>
  intro w f h;let⟨u,t⟩:=Zl1 w a i (f a zX);refine m _ (fun x o=>f x (by simp[o])) ?_
  grind
def MP:OT->Prop
 | .Us _ _ _=>False
 | _=>True
def Two(x y:Nat)(k:Int):Prop:=k=x\/k=y
section
variable {x y:Nat} {n:Nd}
theorem DB(n:Nd):(YH n).n.Zd=n.Zd:=by
 have f:(Zt n).Zd=n.Zd:=by
  unfold Zt
  repeat' split
  all_goals rfl
 have a:∀m:Nd,(Yj m).n.Zd=m.Zd:=fun m=>by
  unfold Yj Jc
  grind
 grind [YH,JT]
theorem W0(n:Nd)(p:OT):(Yc (ZE n) p).n.Zd=n.Zd:=by cases p<;>rfl
end
section
variable {x y:Nat} {w:Wd}
end
def pD{m f a k c s n v now o:Int}(h:Px m f a k c s n v o=0)(u:0<=now)(t:now<=o):Px m f a k c s n v now=0:=by
 grind [Px]
structure ZqZ(rc:List Nat):Prop where
 len:(U rc)≠0
 key:QR (rc.getD 0 0:Nat)=0
 take:Tv (VQ (rc.getD 0 0)) 0 0 QQ (rc.drop 1)=0
 plain:(JK rc).length=42
 prv:UV PB ((JK rc).take 22)=0
 dec:Uh ((JK rc).drop 22)=0
 Zn:¬(Ju ((JK rc).drop 22) 0≠0/\Ju ((JK rc).drop 22) 1≠(rc.getD 0 0:Nat))
theorem FN(rc:List Nat)(now:Int):Xl rc now=0↔ZqZ rc/\ij (JK rc) now=0:=by
 unfold Xl Af iq il ik sF
 constructor
 .intro h;by_cases t:(U rc)=0
  .rw[if_pos t]at h;cases h
  rw[if_neg t]at h;by_cases A:QR (rc.getD 0 0:Nat)≠0
  .rw[if_pos A]at h;grind
  rw[if_neg A]at h;by_cases z:Tv (VQ (rc.getD 0 0)) 0 0 QQ (rc.drop 1)≠0
  .rw[if_pos z]at h;grind
  rw[if_neg z]at h;by_cases u:(JK rc).length≠42
  .rw[if_pos u]at h;cases h
  rw[if_neg u]at h;by_cases m:UV PB ((JK rc).take 22)≠0
  .rw[if_pos m]at h;exact (m h).elim
  rw[if_neg m]at h;by_cases f:Uh ((JK rc).drop 22)≠0
  .rw[if_pos f]at h;exact (f h).elim
  rw[if_neg f]at h;by_cases a:Ju ((JK rc).drop 22) 0≠0/\Ju ((JK rc).drop 22) 1≠(rc.getD 0 0:Nat)
  .rw[if_pos a]at h;cases h
  rw[if_neg a]at h;exact⟨⟨t,uh,uh,uh,uh,uh,a⟩,h⟩
 .rintro⟨o,h⟩;rw[if_neg o.len,if_neg (fun q=>q o.key),if_neg (fun q=>q o.take),if_neg (fun q=>q o.plain),if_neg (fun q=>q o.prv),if_neg (fun q=>q o.dec),if_neg o.Zn];exact h
theorem GG{d:List Nat}{now f:Int}(h:Xl d f=0)(u:0<=now)(t:now<=f):Xl d now=0/\JL d now=JL d f:=by
 have m:Xl d now=0:=by
  let⟨o,a⟩:=(FN d f).1 h;exact (FN d now).2 ⟨o,pD a u t⟩
 refine⟨m,?_⟩;unfold JL;rw[if_pos h,if_pos m]
theorem Uk{cs:List ao}{j:Nat}(v:ao)(i:Nat)(h:i≠j):ci (cs.set j v) i=ci cs i:=by
 grind [ci,X2]
def ZhY{cs:List ao}(h:XK cs=false):(∀i,i<8->Ff cs i=false)/\∀i,i<8->Kw cs i=false:=by
 grind [Uu]
def Ht{cs:List ao}(u:(U cs)=40)(hb:XK cs=false)(k c s n v:Nat)(F:k<=3)(hc:c<=7)(E:s<=1048576)(t:n<=7)(D:v<=1073741824):XK (JH cs k c s n v).cells=false:=by
 let⟨I,B⟩:=ZhY hb;unfold JH;split
 .exact hb
 split
 .exact hb
 split
 .exact hb
 split
 .exact hb
 have h:(Q2 cs k c n v).1.length=40:=by rw[Nz,u]
 have a:∀j,8<=j->j<32->ci (Q2 cs k c n v).1 j=ci cs j:=fun j o m=>FF cs k c n v t j o m;have f:∀j,j<8->Ff (Q2 cs k c n v).1 j=false:=fun j H=>by
  grind [Ff,Q2,Uk,Uz]
 let⟨A,z⟩:=ZO ((Q2 cs k c n v).1);rw[<-z]at h a f ⊢;refine Kx (fun i hi=>?_) (fun i hi=>?_)
 .have:=f i hi;unfold Ff at this ⊢;rw[Uk _ _ uh,Uk _ _ uh,Uk _ _ uh];exact this
 .have:=B i hi;unfold Kw at this ⊢;by_cases e:i=c
  .subst e
   grind [Uk,Uz]
  .rw[Uk _ _ uh,Uk _ _ uh,Uk _ _ uh,Uk _ _ uh,Uk _ _ uh,Uk _ _ uh,Uk _ _ uh,Uk _ _ uh,Uk _ _ uh,a _ uh uh,a _ uh uh,a _ uh uh];exact this
def pF:∀(l:List Cm) (st:gS),EV st->XK st.cs=false->(∀x∈l,x.err=0)->(PA st l).1=0:=by
 intro l
 induction l with
 | nil=>intro st _ _ _;rfl
 | cons x l A=>
  intro st ok hb a;have f:Xy x.k x.c x.s x.n x.v=0:=a x zX;have h:VO st.cs x=0:=by
   unfold VO H9;rw[hb,if_neg HE];exact f
  rw[Ie h];refine A _ (FH ok h).1 ?_ (fun y B=>a y (by simp[B]));let⟨k,c,s,n,v,I,H,F,E,D,z,u,t,o,m⟩:=JR f;show XK (JA st.cs x).cells=false;unfold JA;rw[I,H,F,E,D];exact Ht (YR ok.fit) hb _ _ _ _ _ z u t o m
theorem GH{l:List Cm}(h:∀x∈l,x.err=0):RD l=0:=pF l Fj FG rfl h
def JV(n:Nat):Raw:=⟨9,n,0,0,[]⟩
def QD(n:Nat):Raw:=⟨3,n,0,0,[]⟩
def So(k:Nat):List Raw:=(aW k).map QD
def X0(k:Nat):List Raw:=(aW k).map JV
def Sp:List Raw:=So 5++[NM]
def QE(k:Nat):List Raw:=(List.replicate k Sp).flatten
def JG(l:List Raw)(many:Nat):List Raw:=(l++X0 5)++QE many
def jj(k:Nat):So (k+1)=So k++[QD k]:=by unfold So;rw[aS,a3];rfl
def cK(k:Nat):X0 (k+1)=X0 k++[JV k]:=by unfold X0;rw[aS,a3];rfl
theorem Sq(k:Nat):QE (k+1)=QE k++Sp:=by
 grind [QE,List.replicate_succ']
theorem DC(k:Nat):(So k).length=k:=by unfold So;simp
theorem NX(k:Nat):(X0 k).length=k:=by unfold X0;simp
theorem Hv(k:Nat):(QE k).length=6*k:=by
 induction k with
 | zero=>rfl
 | succ k a=>grind [Sp,Sq,DC]
theorem NY(l:List Raw)(k:Nat):(JG l k).length=(U l)+5+6*k:=by
 grind [JG,NX,Hv]
theorem DD{k:Nat}{x:Raw}(h:x∈X0 k):∃n,n<k/\x=JV n:=by
 unfold X0 at h
 grind
theorem AF{k:Nat}{x:Raw}(h:x∈So k):∃n,n<k/\x=QD n:=by
 unfold So at h
 grind
theorem Ir{k:Nat}{x:Raw}(h:x∈QE k):(∃n,n<5/\x=QD n)\/x=NM:=by
 unfold QE at h
 grind [Sp,bc,AF]
theorem pG{k:Nat}{x:Raw}(h:x∈JG l k):x∈l\/(∃n,n<5/\x=JV n)\/(∃n,n<5/\x=QD n)\/x=NM:=by
 unfold JG at h
 grind [DD,Ir]
theorem AG:(∀n,n<5->(JV n).err=0)/\(∀n,n<5->(QD n).err=0)/\NM.err=0:=HE
theorem pH(h:∀x∈l,x.err=0)(k:Nat):∀x∈JG l k,x.err=0:=fun x a=>by
 grind [AG,pG]
def yL(l:List Raw)(k i:Nat)(hi:i<5):((Qv (JG l k)).Za i).up=true:=by
 have e:Qv (JG l k)=((X0 5++QE k).map Raw.ac).foldl act (Qv l):=by
  unfold Qv Tx JG;rw[aF,a3,a9]
 rw[e];refine Zl2 i _ _ (fun a f=>?_) (.inr ⟨(JV i).ac,aC.2 ⟨JV i,ax.2 (.inl ?_),rfl⟩,rfl,?_⟩)
 .grind [Raw.ac,JV,DD,QD,NM,Ir]
 .grind [X0]
 .show ((i:Nat):Int).toNat=i;omega
def ZdY{A:List Raw}(u:∀x∈A,x.err=0){S:Cm->Prop}(hS:∀x∈A,x.k=1->∀now:Nat,Xl x.data now=0->S (JL x.data now)):
  ∀a∈A.map Raw.ac,C8 S (A.map fun x=>WY x.data) a:=fun a t=>by
 obtain⟨z,f,rfl⟩:=aC.1 t;let⟨_,B,_,m,_⟩:=Ox (u z f);exact⟨⟨by unfold Raw.ac;grind,aC.2 ⟨z,f,rfl⟩⟩,m.1,fun now o h=>hS z f o now h⟩
def AH{A:List Raw}(m:∀x∈A,x.err=0)(t:(U A)<=100000){i:Nat}(hi:i<5){x:Cm}(f:x∈((Qv A).Za i).ZF):x=Ag\/∃a∈A,a.k=1/\Xl a.data 0=0/\x=JL a.data 0:=by
 have ok:=ZdY m (S:=fun x=>∃a∈A,a.k=1/\Xl a.data 0=0/\x=JL a.data 0) (fun z o u now h=>by
  grind [GG])
 exact ZdR zK (A.map Raw.ac) ok i hi x f
def tL{rc:List Nat}{now:Int}(h:Xl rc now=0):(JL rc now).err=0:=by
 grind [Q9.err,JL,FN,Uh,ZqZ.dec,Ju]
theorem DF{A:List Raw}(o:∀x∈A,x.err=0)(m:(U A)<=100000){i:Nat}(hi:i<5){x:Cm}(f:x∈((Qv A).Za i).ZF):x.err=0:=by
 rcases AH o m hi f with rfl|⟨a,_,_,h,rfl⟩
 .rfl
 .exact tL h
def ZhZ{α β:Type}{R:α->β->Prop}{l:List α}{k:List β}(s:fu R l k):∀(i:Nat) (m:i<(U l)) (h:i<(U k)),R l[i] k[i]:=by
 induction s with
 | nil=>grind
 | cons a _ f=>
  grind
def ZGi(w:Wd):List (List Cm):=[(w.Za 0).ZF,(w.Za 1).ZF,(w.Za 2).ZF,(w.Za 3).ZF,(w.Za 4).ZF]
def oQ.ZF{h:Hp}{R:List ao}{w:Wd}{lv tv:ao}{vs:List ao}(s:oQ h R w lv tv vs):∃b o c,lv=ak (Z ⟨b,o,aa⟩) 5 c/\b<h.size/\∀n,n<5->∃x,hc h ⟨b,o+n,aa⟩=Z x/\Ts Q9.C 5 h x (w.Za n).ZF:=by
 have a:(U vs)=5:=tH s.each;obtain⟨p,c,rfl,m⟩:=s.ZqN.open (n:=1) (enc:=fun v=>[v]) (fun _=>rfl) (show (1:Nat)≠0 by decide);obtain⟨b,o,rfl,hb,hh⟩:=m zK;refine⟨b,o,c,by rw[a],hb,fun n f=>⟨vs[n],?_,?_⟩⟩
 .have:=hh n uh;have:=this.hc (i:=0) rfl
  grind
 .have:=ZhZ s.each n uh f
  grind
def DG(T:World)(h:Hp)(v:ao)(xs:List (Raw × ao))(many:Nat)(hv:Ts Uq 5 h v xs)(hx:∀x∈xs,Rb Mx h x.2 x.1.data)(dp:(U xs)<=1000000)(hm:many<=1000000):
  Zg aL T 17 #[v,al ae many] h fun W h'=>∃o,JU h o h' W (JG (Xx xs) many):=by
 have rl:(Xx xs).length=(U xs):=by unfold Xx;simp
 refine Zg.X8 [_,_] Tryz.func17 ?_;simp only[go_sem];refine (JU.nil h).ZdV zX hv hx uh ?_;intro v1 o1 g1 R;rw[a4]at R;simp only[go_sem];refine VS.YC (fun F g=>F 1=al ae many/\∃(n:Nat) (o:Ow),n<=5/\F 6=al ae n/\JU h o g (F 5) (Xx xs++X0 n))
  (fun F _=>5-(vi (F 6)).toNat) rfl ⟨rfl,0,o1,uh,rfl,by rw[show X0 0=[] from rfl,aV];exact R⟩ ?_
 rintro F2 g2 ⟨f1,n,o2,hn,t,z⟩;let⟨p2,c2,f,_⟩:=z.ZR;by_cases J:n<5
 .have I:(n:Int)<5:=uh;rw[f]at z;simp only[go_sem,f1,f,t,I];refine z.add (by rw[aq,NX];omega) 9 n 0 0 ?_;intro v3 E g3 m;simp only[go_sem,t];unfold Xz;refine⟨⟨f1,n+1,E,J,rfl,?_⟩,?_⟩
  .rw[cK,<-aF];exact m
  .simp only[vi,Zu,↓reduceIte,t];omega
 have O:¬(n:Int)<5:=uh;obtain rfl:n=5:=uh;simp only[go_sem,f1,t];refine VS.YC (fun F g=>F 1=al ae many/\∃(i:Nat) (o:Ow),i<=many/\F 7=al ae i/\JU h o g (F 5) ((Xx xs++X0 5)++QE i))
  (fun F _=>many-(vi (F 7)).toNat) rfl ⟨f1,0,o2,uh,rfl,by rw[show QE 0=[] from rfl,aV];exact z⟩ ?_
 clear f1 f t z;rintro F3 g3 ⟨f1,i,E,hi,a,m⟩;by_cases J:i<many
 .have I:(i:Int)<many:=uh;simp only[go_sem,f1,a,I];refine VS.YC (fun F g=>(F 1=al ae many/\F 7=al ae i)/\∃(n:Nat) (o:Ow),n<=5/\F 8=al ae n/\JU h o g (F 5) (((Xx xs++X0 5)++QE i)++So n))
   (fun F _=>5-(vi (F 8)).toNat) rfl ⟨⟨f1,a⟩,0,E,uh,rfl,by rw[show So 0=[] from rfl,aV];exact m⟩ ?_
  clear f1 a m;rintro F4 g4 ⟨⟨f1,a⟩,n,o4,hn,A,B⟩;let⟨p4,c4,f,_⟩:=B.ZR;rw[f]at B;have hlen:(((Xx xs++X0 5)++QE i)++So n).length<=100000000:=by
   rw[aq,aq,aq,NX,Hv,DC];omega
  by_cases H:n<5
  .have u:(n:Int)<5:=uh;simp only[go_sem,f1,f,a,A,u];refine B.add uh 3 n 0 0 ?_;intro V D g5 N;simp only[go_sem,A];unfold Xz;refine⟨⟨⟨f1,a⟩,n+1,D,H,rfl,?_⟩,?_⟩
   .rw[jj,<-aF];exact N
   .simp only[vi,Zu,↓reduceIte,A];omega
  .have u:¬(n:Int)<5:=uh;obtain rfl:n=5:=uh;simp only[go_sem,f1,f,a,A];refine B.add uh 7 0 0 0 ?_;intro V D g5 N;simp only[go_sem,a];unfold Xz;refine⟨⟨f1,i+1,D,J,rfl,?_⟩,?_⟩
   .rw[Sq];unfold Sp;rw[<-aF,<-aF];exact N
   .simp only[vi,Zu,↓reduceIte,a];omega
 .have O:¬(i:Int)<many:=uh;obtain rfl:i=many:=uh;let⟨p3,c3,f,_⟩:=m.ZR;simp only[go_sem,f1,f,a,O];rw[f]at m;exact⟨_,m⟩
def Sr(w:Wd):Nat->List Cm
 | 0=>[]
 | n+1=>if (Sr w n).length<(w.Za n).ZF.length then (w.Za n).ZF else Sr w n
def yM(w:Wd):List Cm:=Sr w 5
def yN(w:Wd):∀n,Sr w n=[]\/∃i,i<n/\Sr w n=(w.Za i).ZF:=by
 intro n
 induction n with
 | zero=>exact .inl rfl
 | succ n a=>
  grind [Sr.eq_def]
theorem FO(w:Wd):yM w=[]\/∃i,i<5/\yM w=(w.Za i).ZF:=yN w 5
def jk(w:Wd):∀n i,i<n->(w.Za i).ZF.length<=(Sr w n).length:=by
 intro n
 induction n with
 | zero=>grind
 | succ n a=>
  grind [Sr.eq_def]
structure ZAK(R:List ao):Prop where
 len:(U R)=13
 one:R.all YV=true
 put:XB [Value.int ae 0,.bool false,.bool false,.bool false,.bool false,.bool false,ak aa 0 0,al ae 0,al ae 0,al ae 0,al ae 0,al ae 0,ak aa 0 0] 0 R=R
 le:(U R)<=13
 take:R.take 13=R
def oQ.ok{h:Hp}{w:Wd}{lv tv:ao}{vs:List ao}(a:oQ h (oP w lv tv) w lv tv vs):ZAK (oP w lv tv)/\(∃b o c,lv=ak (Z ⟨b,o,aa⟩) 5 c)/\∃p c,tv=ak p w.ZH.length c:=by
 let⟨b,o,c,m,_,_⟩:=a.ZF;let⟨pt,t,f,_⟩:=a.ZH.open (n:=5) (enc:=NE) (fun _=>rfl) (show (5:Nat)≠0 by decide);subst m;subst f;exact⟨⟨rfl,rfl,Yf rfl,an 13,rfl⟩,⟨b,o,c,rfl⟩,pt,t,rfl⟩
def pI(T:World)(h:Hp)(w:Wd)(lv tv:ao)(vs:List ao)(ra:oQ h (oP w lv tv) w lv tv vs):
  Zg aL T 10 #[.agg (oP w lv tv).toArray] h fun V h'=>Ts Q9.C 5 h' V (yM w)/\Zm h.size h h':=by
 obtain⟨b,o,c,rfl,hb,hx⟩:=ra.ZF;let⟨R,N⟩:=ZO (oP w (ak (Z ⟨b,o,aa⟩) 5 c) tv);rw[<-N];refine Zg.X8 [_] Tryz.func10 ?_;let⟨a,H⟩:=ZO (h.push (aI (List.toArray R) 30):Hp);have e1:=H.symm;have D:Zm h.size h a:=by rw[H];exact (Zm.refl _ _).add _
 have I:a[h.size]? = Z (aI (List.toArray R) 30):=by rw[H];exact Zf
 have B:hc a ⟨h.size,6,aa⟩=Z (ak (Z ⟨b,o,aa⟩) 5 c):=by rw[Zr I,N];rfl
 have ly:=Zb I;simp only[go_sem,e1];refine VS.YC (fun F g=>g=a/\F 1=.pointer (Z ⟨h.size,0,aa⟩)/\∃n:Nat,n<=5/\F 4=al ae n/\Ts Q9.C 5 a (F 3) (Sr w n))
  (fun F _=>5-(vi (F 4)).toNat) rfl ⟨rfl,rfl,0,uh,rfl,⟨(QU.nil 0 0 5 a).sl⟩⟩ ?_
 rintro F2 g2 ⟨rfl,f1,n,hn,t,u⟩;let⟨p3,c3,z,_⟩:=UD u;by_cases E:n<5
 .have O:(n:Int)<5:=uh;let⟨x,W,J⟩:=hx n E;obtain⟨px,cx,rfl,_⟩:=UD J;have f:hc g2 ⟨b,o+n,aa⟩=Z (ak px (w.Za n).ZF.length cx):=by rw[D.hc (by exact hb)];exact W
  have A:=J.YQ D;by_cases m:((w.Za n).ZF.length:Int)>(Sr w n).length
  .simp only[go_sem,f1,z,t,B,O,f,m];unfold Xz;refine⟨⟨rfl,f1,n+1,E,rfl,?_⟩,?_⟩
   .have e:Sr w (n+1)=(w.Za n).ZF:=by rw[Sr,if_pos uh]
    rw[e];exact A
   .simp only[vi,Zu,↓reduceIte,t];omega
  .simp only[go_sem,f1,z,t,B,O,f,m];unfold Xz;refine⟨⟨rfl,f1,n+1,E,rfl,?_⟩,?_⟩
   .have e:Sr w (n+1)=Sr w n:=by rw[Sr,if_neg uh]
    rw[e];exact u
   .simp only[vi,Zu,↓reduceIte,t];omega
 .have XX:¬(n:Int)<5:=uh;obtain rfl:n=5:=uh;rw[z]at u;simp only[go_sem,f1,z,t,B];exact⟨u,D⟩
def OU(n:Nat):Raw:=⟨2,n,0,0,[]⟩
def pJ(k:Int):Prop:=k=1\/k=2\/k=6\/k=8
instance (k:Int):Decidable (pJ k):=by unfold pJ;infer_instance
def manyN(l:List Raw):Nat->Nat
 | 0=>100
 | i+1=>match l[i]? with
  | some x=>if pJ x.k then manyN l i+20 else manyN l i
  | none=>manyN l i
theorem jl(l:List Raw):∀i,manyN l i<=100+20*i:=by
 intro i
 induction i with
 | zero=>exact an _
 | succ i a=>
  grind [manyN.eq_def]
def Ss(l:List Raw)(n many:Nat):List Raw:=JG (JG l 0++[OU n]) many
def RP(l:List Raw)(n many:Nat):Nat->List Raw
 | 0=>l
 | k+1=>Ss (RP l n many k) n many
def X3(l:List Raw)(n:Nat):List Raw:=RP l n (manyN l (U l)) 2
theorem yO(l:List Raw)(n many:Nat):(Ss l n many).length=(U l)+11+6*many:=by
 grind [Ss,NY]
theorem DH(l:List Raw)(n many k:Nat):(RP l n many k).length=(U l)+k*(11+6*many):=by
 induction k with
 | zero=>simp[RP]
 | succ k a=>grind [RP.eq_2,yO]
theorem Zh0{n:Nat}(h:n<5):(OU n).err=0:=by
 have:∀n<5,(OU n).err=0:=HE
 grind
def yP(h:∀x∈l,x.err=0){n:Nat}(f:n<5)(many k:Nat):∀x∈RP l n many k,x.err=0:=by
 induction k with
 | zero=>exact h
 | succ k a=>
  grind [Ss,RP.eq_def,pH,Zh0]
def GJ(h:∀x∈l,x.err=0){n:Nat}(a:n<5):∀x∈X3 l n,x.err=0:=yP h a _ 2
def GK{n b:Nat}(h:(U l)<=b):(X3 l n).length<=b+2*(11+6*(100+20*b)):=by
 grind [X3,DH,jl]
def jm(T:World)(h:Hp)(v:ao)(xs:List (Raw × ao))(n:Nat)(hn:n<5)(hv:Ts Uq 5 h v xs)(hx:∀x∈xs,Rb Mx h x.2 x.1.data)(dp:(U xs)<=3000):
  Zg aL T 8 #[v,al ae n] h fun v' h'=>∃A o,Zm h.size h A/\JU A o h' v' (X3 (Xx xs) n):=by
 have rl:(Xx xs).length=(U xs):=by unfold Xx;simp
 obtain⟨p,c,rfl,Jx⟩:=hv.open Io HE;refine Zg.X8 [_,_] Tryz.func8 ?_;simp only[go_sem];refine VS.YC (fun F g=>g=h/\F 0=ak p (U xs) c/\F 1=al ae n/\∃i:Nat,i<=(U xs)/\F 6=al ae i/\F 5=al ae (manyN (Xx xs) i))
  (fun F _=>(U xs)-(vi (F 6)).toNat) rfl ⟨rfl,rfl,rfl,0,Nat.zero_le _,rfl,rfl⟩ ?_
 rintro F g ⟨rfl,t,f1,i,hi,m,a⟩;have b0:=jl (Xx xs) i;let⟨M,hM⟩:=ZO (manyN (Xx xs) i);rw[<-hM]at a b0;by_cases D:i<(U xs)
 .have W:(i:Int)<(U xs):=uh;obtain⟨bs,os,rfl,qO,Ik⟩:=Jx zK;let⟨x,LW⟩:=ZO (xs[i]);have ca:YU g bs (os+i*5) (Uq x):=by rw[LW];exact Ik i D
  have J:hc g ⟨bs,os+i*5,aa⟩=Z (al ae x.1.k):=ca.hc (i:=0) rfl;have N:(Xx xs)[i]? = Z x.1:=by unfold Xx;rw[List.getElem?_map,aX D,<-LW];rfl
  have u:pJ x.1.k->manyN (Xx xs) (i+1)=M+20:=fun q=>by rw[manyN,N];grind
  have V:¬pJ x.1.k->manyN (Xx xs) (i+1)=M:=fun q=>by rw[manyN,N];grind
  let⟨M',f⟩:=ZO (manyN (Xx xs) (i+1));rw[<-f]at u V;by_cases q1:x.1.k=1
  .have hb:=u (.inl q1);simp only[go_sem,t,f1,a,m,W,J,q1];unfold Xz;refine⟨⟨rfl,t,f1,i+1,D,rfl,?_⟩,?_⟩
   .rw[<-f,hb];rfl
   .simp only[vi,Zu,↓reduceIte,m];omega
  by_cases q2:x.1.k=2
  .have hb:=u (.inr (.inl q2));simp only[go_sem,t,f1,a,m,W,J,q2];unfold Xz;refine⟨⟨rfl,t,f1,i+1,D,rfl,?_⟩,?_⟩
   .rw[<-f,hb];rfl
   .simp only[vi,Zu,↓reduceIte,m];omega
  by_cases q3:x.1.k=6
  .have hb:=u (.inr (.inr (.inl q3)));simp only[go_sem,t,f1,a,m,W,J,q3];unfold Xz;refine⟨⟨rfl,t,f1,i+1,D,rfl,?_⟩,?_⟩
   .rw[<-f,hb];rfl
   .simp only[vi,Zu,↓reduceIte,m];omega
  by_cases q4:x.1.k=8
  .have hb:=u (.inr (.inr (.inr q4)));simp only[go_sem,t,f1,a,m,W,J,q4];unfold Xz;refine⟨⟨rfl,t,f1,i+1,D,rfl,?_⟩,?_⟩
   .rw[<-f,hb];rfl
   .simp only[vi,Zu,↓reduceIte,m];omega
  .have hb:=V (by rintro (q|q|q|q)<;>contradiction);simp only[go_sem,t,f1,a,m,W,J,q1,q2,q3,q4];unfold Xz;refine⟨⟨rfl,t,f1,i+1,D,rfl,?_⟩,?_⟩
   .rw[<-f,hb];exact a
   .simp only[vi,Zu,↓reduceIte,m];omega
 have XX:¬(i:Int)<(U xs):=uh;obtain rfl:i=(U xs):=uh;have b2:X3 (Xx xs) n=RP (Xx xs) n M 2:=by unfold X3;rw[rl,hM]
 rw[b2];clear hM;simp only[go_sem,t,m,XX];refine (JU.nil g).ZdV zX hv hx uh ?_;intro v1 o1 g1 A1;rw[a4]at A1;simp only[go_sem,f1,a];refine VS.YC (fun E g2=>E 1=al ae n/\E 5=al ae M/\∃k:Nat,k<=2/\E 8=al ae k/\∃A o,Zm g.size g A/\JU A o g2 (E 7) (RP (Xx xs) n M k))
  (fun E _=>2-(vi (E 8)).toNat) rfl ⟨f1,a,0,uh,rfl,g,o1,Zm.refl _ _,A1⟩ ?_
 clear t f1 a m A1;rintro E g2 ⟨f1,a,k,A,H,b6,ok,Bk,A2⟩;let⟨b3,C2,z,R,t2,i2⟩:=A2.done;have B2:Zm g.size g g2:=Bk.trans (b3.mono Bk.size);have yl:(U z)=(U xs)+k*(11+6*M):=by
  have:=congrArg U R;rw[DH,rl]at this;rw[<-this];unfold Xx;simp
 have b5:k*(11+6*M)<=2*(11+6*M):=Nat.mul_le_mul_right _ A;let⟨p2,c2,f7,_⟩:=t2.open Io HE;by_cases b1:k<2
 .have B:(k:Int)<2:=uh;rw[f7]at t2;simp only[go_sem,f1,a,f7,H,B];refine (DG T g2 _ z 0 t2 i2 uh uh).use ?_;rintro v3 g3 ⟨o3,A3⟩;obtain⟨p3,c3,rfl,_⟩:=A3.ZR;have B3:=A3.done.1;simp only[go_sem,f1,a,H];refine A3.add (by rw[NY];unfold Xx;grind) 2 n 0 0 ?_;intro v4 o4 g4 A4;let⟨B4,C4,I,O,t4,i4⟩:=A4.done;have b4:(U I)=(U z)+6:=by
   have:=congrArg U O;rw[aq,NY]at this;unfold Xx at this;simp only[a2,List.length_singleton]at this;omega
  simp only[go_sem,f1,a,H];refine (DG T g4 _ I M t4 i4 uh uh).use ?_;rintro v5 g5 ⟨o5,A5⟩;rw[O,R]at A5;simp only[go_sem,H];unfold Xz;refine⟨⟨f1,a,k+1,b1,rfl,g4,o5,B2.trans (B4.mono B2.size),A5⟩,?_⟩;simp only[vi,Zu,↓reduceIte,H];omega
 .have B:¬(k:Int)<2:=uh;obtain rfl:k=2:=uh;rw[f7]at A2;simp only[go_sem,f7,H,B]
  grind
def jn(T:World)(h:Hp)(v:ao)(xs:List (Raw × ao))(n:Nat)(u:n<5)(t:Ts Uq 5 h v xs)(m:∀x∈xs,Rb Mx h x.2 x.1.data)(z:xs.length<=3000):
  Zg aL T 8 #[v,.int .i64 n] h fun f h'=>Zm h.size h h'/\RT f/\∃a,Xx a=X3 (Xx xs) n/\Ts Uq 5 h' f a/\∀y∈a,Rb Mx h' y.2 y.1.data:=by
 refine (jm T h v xs n u t m z).mono ?_;rintro f h' ⟨D,o,B,A⟩;let⟨b,c,q⟩:=A.done;exact⟨B.trans (b.mono B.size),c,q⟩
def GL(w:Wd)(i:Nat):Wd:=w.out i (step (w.Za i))
def DI(w:Wd):Wd:=GL (GL (GL (GL (GL w 0) 1) 2) 3) 4
def LH(w:Wd):Wd:=w.b.foldl XN { w with b:=[] }
def C9(w:Wd):Wd:=LH (DI w)
def YJ:Nat->Wd->Wd
 | 0,w=>w
 | k+1,w=>C9 (YJ k w)
def We(w:Wd)(n:Nat):act w (QD n).ac=GL w n:=by
 unfold act QD Raw.ac GL;simp
def cL(w:Wd):act w NM.ac=LH w:=by
 unfold act NM Raw.ac LH;simp
def Oz(l k:List Raw):Qv (l++k)=(k.map Raw.ac).foldl act (Qv l):=by
 unfold Qv Tx
 grind
def yQ(l:List Raw):Qv (l++Sp)=C9 (Qv l):=by
 rw[Oz];show act (act (act (act (act (act (Qv l) (QD 0).ac) (QD 1).ac) (QD 2).ac) (QD 3).ac) (QD 4).ac) NM.ac=_;rw[We,We,We,We,We,cL];rfl
theorem jo(l:List Raw):∀k,Qv (l++QE k)=YJ k (Qv l):=by
 intro k
 induction k with
 | zero=>rw[show QE 0=[] from rfl,aV];rfl
 | succ k a=>rw[Sq,<-aF,yQ,a];rfl
theorem jp(w:Wd)(n:Nat)(a:(w.Za n).up=true):act w (JV n).ac=w:=by
 have e:act w (JV n).ac=w.set n (started n (w.Za n)):=by
  unfold act JV Raw.ac;simp
 rw[e];unfold started;rw[if_pos a];unfold Wd.set
 congr 1
 grind
theorem LJ(l:List Raw)(a:∀i,i<5->((Qv l).Za i).up=true):Qv (l++X0 5)=Qv l:=by
 rw[Oz];show act (act (act (act (act (Qv l) (JV 0).ac) (JV 1).ac) (JV 2).ac) (JV 3).ac) (JV 4).ac=_
 grind [Raw.ac,jp]
def DJ:∀(ls:List Yt) (w:Wd) (i:Nat),(ls.foldl XN w).Za i=if (w.Za i).up=true then { w.Za i with Zd:=(w.Za i).Zd++ls.filter (fun l=>decide (l.to.toNat=i)) } else w.Za i:=by
 intro ls
 induction ls with
 | nil=>intro w i;simp
 | cons l ls a=>
  intro w i;rw[a1,a];unfold XN;by_cases e:i=l.to.toNat
  .grind [Wd.set]
  grind [Wd.set]
def Qw(w:Wd):List Yt:=w.b++(step (w.Za 0)).ls++(step (w.Za 1)).ls++(step (w.Za 2)).ls++(step (w.Za 3)).ls++(step (w.Za 4)).ls
def pK(w:Wd):(DI w).b=Qw w:=by
 unfold DI Qw GL Wd.out;simp
def yR(w:Wd)(i:Nat)(hi:i<5):(DI w).Za i=(step (w.Za i)).n:=by
 match i,hi with
 | 0,_=>rfl
 | 1,_=>rfl
 | 2,_=>rfl
 | 3,_=>rfl
 | 4,_=>rfl
theorem Qg(w:Wd)(i:Nat)(hi:i<5)(a:(w.Za i).up=true):(C9 w).Za i = { (step (w.Za i)).n with Zd:=(step (w.Za i)).n.Zd++(Qw w).filter (fun l=>decide (l.to.toNat=i)) }:=by
 unfold C9 LH;have e:({ DI w with b:=[] }:Wd).Za i=(step (w.Za i)).n:=yR w i hi;rw[DJ,e,if_pos (by rw[(Hr (w.Za i)).1];exact a),pK]
theorem Is(w:Wd):(C9 w).b=[]:=by
 unfold C9 LH;exact (LG _ _).2.2
theorem JI{w:Wd}{l:Yt}:l∈Qw w↔l∈w.b\/∃i,i<5/\l∈(step (w.Za i)).ls:=by
 unfold Qw
 grind
theorem TD{w:Wd}{i:Nat}(hi:i<5)(a:(w.Za i).up=true){l:Yt}:l∈((C9 w).Za i).Zd↔l∈(step (w.Za i)).n.Zd\/(l∈Qw w/\l.to.toNat=i):=by
 grind [Qg]
structure Laws(I:Nd->Prop)(J K:Yt->Prop):Prop where
 box:∀n k,I n->I { n with Zd:=k }
 pL:∀n l,I n->n.Zo=aa->J l->I (Zy n l).n/\∀m∈(Zy n l).ls,K m
 dty:∀n,I n->n.Zo=aa->I (YH n).n/\∀m∈(YH n).ls,K m
 fin:∀n p,I n->n.Zo=Z p->I (Yc (ZE n) p).n/\∀m∈(Yc (ZE n) p).ls,K m
def Qm(n:Nd):Prop:=n.Zo=aa/\(Zw n n.Zd).n.Zo=aa
theorem XH{I:Nd->Prop}{J K:Yt->Prop}(W:Laws I J K):∀(k:List Yt) (n:Nd),I n->(∀l∈k,J l)->I (Zw n k).n/\(∀m∈(Zw n k).ls,K m)/\∀l∈(Zw n k).n.Zd,l∈k:=by
 intro k
 induction k with
 | nil=>
  grind [Zw.eq_def,Laws.box]
 | cons l k o=>
  intro n h t;unfold Zw;by_cases f:n.Zo.isSome=true
  .grind [Laws.box]
  .rw[if_neg f];have a:({ n with Zd:=k }:Nd).Zo=aa:=by
    show n.Zo=aa
    cases q:n.Zo with
    | none=>rfl
    | some p=>grind
   grind [Laws.pL,Laws.box]
theorem PT{I:Nd->Prop}{J K:Yt->Prop}(W:Laws I J K)(a:n.up=true)(h:I n)(hb:∀l∈n.Zd,J l):I (step n).n/\(∀m∈(step n).ls,K m)/\∀l∈(step n).n.Zd,l∈n.Zd:=by
 unfold step;rw[if_pos a]
 cases o:n.Zo with
 | some p=>
  grind [Laws.fin,W0]
 | none=>
  simp only;let⟨z,u,t⟩:=XH W n.Zd n h hb;split
  .grind
  .rename_i q;have f:(Zw n n.Zd).n.Zo=aa:=by
    cases e:(Zw n n.Zd).n.Zo with
    | none=>rfl
    | some p=>grind
   grind [Laws.dty,DB]
theorem drain_empty:∀(k:List Yt) (n:Nd),(Zw n k).n.Zo=aa->(Zw n k).n.Zd=[]:=by
 intro k
 induction k with
 | nil=>intro n _;unfold Zw;rfl
 | cons l k a=>
  grind [Zw.eq_def]
theorem Xi(f:n.up=true)(a:Qm n):step n=⟨(YH (Zw n n.Zd).n).n,(Zw n n.Zd).ls++(YH (Zw n n.Zd).n).ls,(Zw n n.Zd).ts++(YH (Zw n n.Zd).n).ts⟩:=by
 unfold step;rw[if_pos f,a.1];simp only;rw[a.2];rfl
theorem Vv(f:n.up=true)(a:Qm n):(step n).n.Zd=[]:=by
 rw[Xi f a];show (YH (Zw n n.Zd).n).n.Zd=[]
 rw[DB];exact drain_empty _ _ a.2
structure Q8(I:Nd->Prop)(J A G:Yt->Prop)(E F:Nd->Prop):Prop where
 a:∀n k,E n->E { n with Zd:=k }
 Zl4:∀n l,I n->n.Zo=aa->J l->E n->E (Zy n l).n
 Zq2:∀n,I n->n.Zo=aa->E n->E (YH n).n
 ZcC:∀n p,I n->n.Zo=Z p->E n->E (Yc (ZE n) p).n
 yS:∀n k,F n->F { n with Zd:=k }
 jq:∀n,F n->n.Zo≠aa
 Zq3:∀n p,I n->n.Zo=Z p->F n->E (Yc (ZE n) p).n\/∃m∈(Yc (ZE n) p).ls,G m
 hit:∀n l,I n->n.Zo=aa->J l->A l->E (Zy n l).n\/F (Zy n l).n\/∃m∈(Zy n l).ls,G m
def yU{I:Nd->Prop}{J K A G:Yt->Prop}{E F:Nd->Prop}(W:Laws I J K)(H:Q8 I J A G E F):∀(k:List Yt) (n:Nd),I n->(∀l∈k,J l)->n.Zo=aa->(E n\/∃l∈k,A l) ->
  E (Zw n k).n\/F (Zw n k).n\/(∃l∈(Zw n k).n.Zd,A l)\/∃m∈(Zw n k).ls,G m:=by
 intro k
 induction k with
 | nil=>
  grind [Zw.eq_def,Q8.a]
 | cons l k V=>
  intro n h t O a;have z:=W.box n k h;have f:({ n with Zd:=k }:Nd).Zo=aa:=O;have u:=t l zX;let⟨h1,_⟩:=W.pL _ l z f u;have e:Zw n (l :: k)=⟨(Zw (Zy { n with Zd:=k } l).n k).n,(Zy { n with Zd:=k } l).ls++(Zw (Zy { n with Zd:=k } l).n k).ls,(Zy { n with Zd:=k } l).ts++(Zw (Zy { n with Zd:=k } l).n k).ts⟩:=by
   conv=>lhs;unfold Zw
   rw[if_neg zK]
  rw[e];simp only;have hj:∀m∈k,J m:=fun m o=>t m (by simp[o])
  have main:(E (Zy { n with Zd:=k } l).n\/F (Zy { n with Zd:=k } l).n\/(∃m∈(Zy { n with Zd:=k } l).ls,G m))\/∃m∈k,A m:=by
   rcases a with a|⟨m,o,R⟩
   .exact .inl (.inl (H.Zl4 _ l z f u (H.a _ _ a)))
   .grind [Q8.hit]
  have stop:∀(x:Nd),x.Zo.isSome=true->(Zw x k)=⟨{ x with Zd:=k },[],[]⟩\/k=[]:=fun x hx=>by
   grind [Zw.eq_def]
  have D:F (Zy { n with Zd:=k } l).n->F (Zw (Zy { n with Zd:=k } l).n k).n:=fun hF=>by
   have a:(Zy { n with Zd:=k } l).n.Zo.isSome=true:=by
    have:=H.jq _ hF
    cases q:(Zy { n with Zd:=k } l).n.Zo with
    | none=>grind
    | some p=>rfl
   rcases stop _ a with q|q
   .rw[q];exact H.yS _ _ hF
   .subst q;unfold Zw;exact H.yS _ _ hF
  rcases main with (B|hF|⟨m,o,hG⟩)|R
  .by_cases N:(Zy { n with Zd:=k } l).n.Zo=aa
   .grind
   .have a:(Zy { n with Zd:=k } l).n.Zo.isSome=true:=by
     cases q:(Zy { n with Zd:=k } l).n.Zo with
     | none=>grind
     | some p=>rfl
    rcases stop _ a with q|q
    .rw[q];exact .inl (H.a _ _ B)
    .subst q;unfold Zw;exact .inl (H.a _ _ B)
  .grind
  .grind
  .by_cases N:(Zy { n with Zd:=k } l).n.Zo=aa
   .grind
   .have a:(Zy { n with Zd:=k } l).n.Zo.isSome=true:=by
     cases q:(Zy { n with Zd:=k } l).n.Zo with
     | none=>grind
     | some p=>rfl
    grind
def Src(A:Yt->Prop)(E F:Nd->Prop)(n:Nd):Prop:=E n\/F n\/∃l∈n.Zd,A l
def jr{I:Nd->Prop}{J K A G:Yt->Prop}{E F:Nd->Prop}(W:Laws I J K)(H:Q8 I J A G E F)(f:n.up=true)(h:I n)(hb:∀l∈n.Zd,J l)(o:Src A E F n):
  (Src A E F (step n).n\/∃m∈(step n).ls,G m)/\(Qm n->E (step n).n\/∃m∈(step n).ls,G m):=by
 cases a:n.Zo with
 | some p=>
  grind [step,Src,Qm,Q8.ZcC,Q8.Zq3,W0]
 | none=>
  have t:E n\/∃l∈n.Zd,A l:=by
   rcases o with q|q|q
   .exact .inl q
   .exact absurd a (H.jq n q)
   .exact .inr q
  have D:=yU W H n.Zd n h hb a t;have z:=(XH W n.Zd n h hb).1;by_cases u:(Zw n n.Zd).n.Zo=aa
  .grind [Src,Qm,Xi,Q8.Zq2,Q8.jq,drain_empty]
  .have e:step n=Zw n n.Zd:=by
    unfold step;rw[if_pos f,a];simp only;rw[if_pos]
    cases q:(Zw n n.Zd).n.Zo with
    | none=>grind
    | some p=>rfl
   grind [Src,Qm]
def Has{β:Type}(l:List (Int × β))(k:Int):Prop:=YF l k≠aa
theorem Has.ins{β:Type}{l:List (Int × β)}{j:Int}(h:Has l j)(k:Int)(v:β):Has (Go.V.ins l k v) j:=by
 grind [Has,XQ]
theorem Has.now{β:Type}(l:List (Int × β))(k:Int)(v:β):Has (Go.V.ins l k v) k:=by
 grind [Has,XQ]
def Vtd(r:XR)(s j:Int):Prop:=Has ((YF r.Xc s).getD []) j
structure Yw(r r':XR):Prop where
 b:r'.b=r.b
 ZQ:∀s x,YF r.ZQ s=Z x->YF r'.ZQ s=Z x
 a:r.a=true->r'.a=true
 c:∀k,Has r.c k->Has r'.c k
 Xc:∀s j,Vtd r s j->Vtd r' s j
theorem Yw.refl(r:XR):Yw r r:=⟨rfl,fun _ _ h=>h,fun h=>h,fun _ h=>h,fun _ _ h=>h⟩
theorem Yw.trans{a b c:XR}(m:Yw a b)(f:Yw b c):Yw a c:=
 ⟨by rw[f.b,m.b],fun s x h=>f.ZQ s x (m.ZQ s x h),fun h=>f.a (m.a h),fun k h=>f.c k (m.c k h),fun s j h=>f.Xc s j (m.Xc s j h)⟩
structure JM(r r':XR):Prop where
 k:Yw r r'
 p:r'.ZQ=r.ZQ
 g:r'.a=r.a
theorem JM.refl(r:XR):JM r r:=⟨Yw.refl r,rfl,rfl⟩
theorem JM.trans{a b c:XR}(h:JM a b)(f:JM b c):JM a c:=⟨h.k.trans f.k,by rw[f.p,h.p],by rw[f.g,h.g]⟩
def Va:Option XR->Option XR->Prop
 | none,aa=>True
 | some r,Z r'=>JM r r'
 | _,_=>False
def Va.refl:∀o,Va o o
 | none=>trivial
 | some r=>JM.refl r
def Va.trans:∀{a b c:Option XR},Va a b->Va b c->Va a c
 | none,aa,aa,_,_=>trivial
 | some _,Z _,Z _,h1,h2=>JM.trans h1 h2
 | none,Z _,_,h,_=>h.elim
 | some _,aa,_,h,_=>h.elim
 | none,aa,Z _,_,h=>h.elim
 | some _,Z _,aa,_,h=>h.elim
structure VX(n m:Nd):Prop where
 up:m.up=n.up
 me:m.me=n.me
 ZF:∃e,m.ZF=n.ZF++e
 Zi:∀s,Has n.Zi s->Has m.Zi s
 ZD:∀x∈n.ZD,x∈m.ZD\/x∈m.ZF
def VX.refl(n:Nd):VX n n:=⟨rfl,rfl,⟨[],zX⟩,fun _ h=>h,fun x h=>.inl h⟩
def VX.trans{a b c:Nd}(m:VX a b)(f:VX b c):VX a c:=by
 let⟨t,p1⟩:=m.ZF;let⟨o,u⟩:=f.ZF;refine⟨by rw[f.up,m.up],by rw[f.me,m.me],⟨t++o,zK⟩,fun s h=>f.Zi s (m.Zi s h),fun x z=>?_⟩
 grind [VX.ZD]
theorem VX.same{m:Nd}(o:m.up=n.up)(f:m.me=n.me)(a:m.ZF=n.ZF)(z:m.Zi=n.Zi)(u:m.ZD=n.ZD):VX n m:=
 ⟨o,f,⟨[],by rw[a];simp⟩,fun s h=>by grind,fun x t=>.inl zK⟩
structure YT(n m:Nd):Prop where
 go:VX n m
 Zn:m.Zn=n.Zn
 XI:m.XI=n.XI
 data:m.data=n.data
 Zo:m.Zo=n.Zo
 Rd:Va n.Zc m.Zc
theorem YT.refl(n:Nd):YT n n:=⟨VX.refl n,rfl,rfl,rfl,rfl,Va.refl _⟩
theorem YT.trans{a b c:Nd}(h:YT a b)(f:YT b c):YT a c:=
 ⟨h.go.trans f.go,by rw[f.Zn,h.Zn],by rw[f.XI,h.XI],by rw[f.data,h.data],by rw[f.Zo,h.Zo],h.Rd.trans f.Rd⟩
theorem cM(n:Nd)(x:Cm):YT n (XF n x):=by
 refine⟨⟨rfl,rfl,⟨[x],rfl⟩,fun _ h=>h,fun y a=>?_⟩,rfl,rfl,rfl,rfl,Va.refl _⟩
 grind [XF]
def La:∀(k:Nat) (n:Nd),YT n (YA k n).1/\(YA k n).1.Zi=n.Zi:=by
 intro k
 induction k with
 | zero=>intro n;exact⟨YT.refl n,rfl⟩
 | succ k a=>
  intro n;unfold YA
  grind [XF,YT.refl,YT.trans,cM]
theorem QK(n:Nd)(s:Int)(x:Cm):YT n (Jj n s x).n/\Has (Jj n s x).n.Zi s/\(Jj n s x).ls=[]:=by
 unfold Jj;let⟨f,m⟩:=La ((X6 n s x).Zi.length+1) (X6 n s x);refine⟨YT.trans (b:=X6 n s x) ⟨⟨rfl,rfl,⟨[],by simp[X6]⟩,fun j h=>Has.ins h s x,fun y a=>.inl a⟩,rfl,rfl,rfl,rfl,Va.refl _⟩ f,?_,rfl⟩
 grind [X6,Has.now]
theorem GM(n:Nd)(l:Yt):YT n (XL n l):=by
 unfold XL;split
 .exact⟨VX.same rfl rfl rfl rfl rfl,rfl,rfl,rfl,rfl,Va.refl _⟩
 .exact YT.refl n
def AI(n:Nd)(x:Cm):YT n (add n x)/\(x∈(add n x).ZD\/x∈(add n x).ZF):=by
 unfold add;split
 .rename_i q;exact⟨YT.refl n,q⟩
 .exact⟨⟨⟨rfl,rfl,⟨[],zX⟩,fun _ h=>h,fun y a=>.inl (ax.2 (.inl a))⟩,rfl,rfl,rfl,rfl,Va.refl _⟩,.inl (ax.2 (.inr zX))⟩
theorem pM(hr:n.Zc=Z r)(l:Yt):YT n (C0 n r l):=by
 refine⟨VX.same rfl rfl rfl rfl rfl,rfl,rfl,rfl,rfl,?_⟩;rw[hr];exact⟨⟨rfl,fun _ _ h=>h,fun h=>h,fun k h=>Has.ins h _ _,fun _ _ h=>h⟩,rfl,rfl⟩
theorem pN(hr:n.Zc=Z r)(l:Yt):YT n (Vc n r l):=by
 refine⟨VX.same rfl rfl rfl rfl rfl,rfl,rfl,rfl,rfl,?_⟩;rw[hr];refine⟨⟨rfl,fun _ _ h=>h,fun h=>h,fun k h=>h,fun s j h=>?_⟩,rfl,rfl⟩
 grind [Vtd,UB,XQ,Has.ins]
theorem DK(n:Nd)(l:Yt):YT n (YI n l).n/\(YI n l).ls=[]:=by
 grind [YI,YT.refl,pN,QK,YT.trans,pM]
theorem jt(n:Nd)(l:Yt):YT n (Q3 n l).n:=by
 grind [Q3,GM]
def NZ(n:Nd)(l:Yt):Nd:={ n with data:=n.data++Xm (QA l.b),Zo:=Z (.QB ⟨l.b,n.Zn.l⟩ l.c l.b n.Zn.l) }
def N0(n:Nd)(l:Yt):Nd:={ n with data:=n.data++Xm (WJ l.v),Zo:=Z (.Us ⟨l.v.b,Jq n.Zn.l l.v⟩ l.c l.v) }
theorem YE(n:Nd)(l:Yt):(∀m∈(Zy n l).ls,m.a≠0/\m.a≠2)/\(YT n (Zy n l).n \/
  (l.a=0/\YX n.Zn.p n.Zn.l l.b=0/\n.Zn.p≠l.b/\JS n.data n.XI l.b=0/\(Zy n l).n=NZ n l) \/
  (l.a=2/\Xw n.Zn.p n.Zn.l l.v=0/\l.v ∉ n.Zn.l/\QS n.data n.XI l.v=0/\(Zy n l).n=N0 n l)):=by
 have one:∀(k:Int) (f t:Int) (b:ZN) (v:Vt) (vs:List Vt),k≠0->k≠2->∀m∈[(⟨k,f,t,b,v,vs⟩:Yt)],m.a≠0/\m.a≠2:=fun k f t b v vs u o m a=>by
  grind
 have nil:∀m∈([]:List Yt),m.a≠0/\m.a≠2:=fun m a=>by cases a
 unfold Zy;split
 .rename_i h;unfold Y3
  grind [NZ,YT.refl]
 split
 .grind [DK]
 split
 .rename_i h;unfold asked
  grind [N0,YT.refl]
 split
 .exact⟨nil,.inl (AI n l.v.cm).1⟩
 split
 .grind [Q3,jt]
 grind [GM,QK]
def ju(n:Nd)(r:XR)(x:Cm):Yw r (Qk n r x):=by
 unfold Qk;split
 .rename_i s a;refine⟨rfl,fun t y h=>?_,fun h=>h,fun _ h=>h,fun _ _ h=>h⟩;show YF (ins r.ZQ (s:Int) x) t=Z y;rw[XQ];split
  .rename_i e;have:=(Mz _ _ _ a).2.2.1
   grind
  .exact h
 .exact Yw.refl r
def RQ(n:Nd):∀(l:List Cm) (r:XR),Yw r (XS n r l):=by
 intro l
 induction l with
 | nil=>intro r;exact Yw.refl r
 | cons x l a=>intro r;exact (ju n r x).trans (a _)
def Blank(o:Option XR):Prop:=∀r,o=Z r->r.a=false->∀s,YF r.ZQ s=aa
def WC(n:Nd)(r:XR)(hb:r.a=false->∀s,YF r.ZQ s=aa):Yw r (Xs n r)/\(Xs n r).a=true:=by
 have a:∀(l:List Cm) (r:XR),r.a=true->(XS n r l).a=true:=fun l r h=>(RQ n l r).a h;unfold Xs;by_cases q:r.a=true
 .rw[if_pos q];exact⟨RQ n _ r,a _ _ q⟩
 .rw[if_neg q];have f:r.a=false:=by simpa using q
  refine⟨Yw.trans (b:=Qs n r) ⟨rfl,fun s x h=>?_,fun h=>absurd h q,fun _ h=>h,fun _ _ h=>h⟩ (RQ n _ _),a _ _ rfl⟩
  grind
def TM(n:Nd)(r:XR):(Xs n r).Xc=r.Xc/\(Xs n r).c=r.c:=by
 have f:∀(l:List Cm) (r:XR),(XS n r l).Xc=r.Xc/\(XS n r l).c=r.c:=by
  intro l
  induction l with
  | nil=>intro r;exact⟨rfl,rfl⟩
  | cons x l a=>
   intro r;have e:(Qk n r x).Xc=r.Xc/\(Qk n r x).c=r.c:=by unfold Qk;split<;>exact⟨rfl,rfl⟩
   grind [XS]
 grind [Xs,Qs]
structure WK(n m:Nd):Prop where
 up:m.up=n.up
 me:m.me=n.me
 ZF:m.ZF=n.ZF
 Zi:m.Zi=n.Zi
 ZD:m.ZD=n.ZD
 e:m.e=n.e
 Zn:m.Zn=n.Zn
 XI:m.XI=n.XI
 Rd:(n.Zc=aa/\m.Zc=aa)\/(∃r,n.Zc=Z r/\Zj r.b n.Zn.p/\m.Zc=aa)\/∃r r',n.Zc=Z r/\¬Zj r.b n.Zn.p/\m.Zc=Z r'/\Yw r r'/\(r'=r\/r'.a=true)/\r'.Xc=r.Xc/\r'.c=r.c
 Zo:(m.Zo=aa/\m.data=n.data)\/∃r,n.Zc=Z r/\Zj n.Zn.p r.b/\JS n.data n.XI r.b=0/\m.data=n.data++Xm (QA r.b) /\
  m.Zo=Z (.Zn (if YX n.Zn.p n.Zn.l r.b=0 then ⟨r.b,n.Zn.l⟩ else Qj) (if YX n.Zn.p n.Zn.l r.b=0 then n.Zn.l else []) true)
theorem UF(n:Nd):(n.Zc=aa/\Zt n=n)\/(∃r,n.Zc=Z r/\Zj r.b n.Zn.p/\Zt n = { n with Zc:=aa })\/∃r,n.Zc=Z r/\¬Zj r.b n.Zn.p/\Zt n=n:=by
 grind [Zt]
theorem WK.YO{m:Nd}(h:WK n m):WK n (JT m):=⟨h.up,h.me,h.ZF,h.Zi,h.ZD,h.e,h.Zn,h.XI,h.Rd,h.Zo⟩
def Ba(n:Nd)(l:Yt):Prop:=l.a=0\/l.a=2->∃r,n.Zc=Z r/\¬Zj r.b n.Zn.p/\¬Zj n.Zn.p r.b/\(l.a=0->l.b=r.b)/\(l.a=2->l.v.b=r.b)/\l.c=n.me
def pO(D:n.Zo=aa)(hr:n.Zc=Z r)(B:¬Zj r.b n.Zn.p)(hb:r.a=false->∀s,YF r.ZQ s=aa):WK n (Jc n r).n/\∀l∈(Jc n r).ls,Ba n l:=by
 have same:∀m:Nd,m.up=n.up->m.me=n.me->m.ZF=n.ZF->m.Zi=n.Zi->m.ZD=n.ZD->m.e=n.e->m.Zn=n.Zn->m.XI=n.XI->(∃r',m.Zc=Z r'/\Yw r r'/\(r'=r\/r'.a=true)/\r'.Xc=r.Xc/\r'.c=r.c)->((m.Zo=aa/\m.data=n.data)\/∃r,n.Zc=Z r/\Zj n.Zn.p r.b/\JS n.data n.XI r.b=0/\m.data=n.data++Xm (QA r.b) /\
  m.Zo=Z (.Zn (if YX n.Zn.p n.Zn.l r.b=0 then ⟨r.b,n.Zn.l⟩ else Qj) (if YX n.Zn.p n.Zn.l r.b=0 then n.Zn.l else []) true))->WK n m:=fun m o R O N J I H F ⟨r',E,h⟩ f=>
  ⟨o,R,O,N,J,I,H,F,.inr (.inr ⟨r,r',hr,B,E,h⟩),f⟩
 unfold Jc;by_cases t:Zj n.Zn.p r.b
 .rw[if_pos t];by_cases A:JS n.data n.XI r.b=0
  .rw[if_neg (by simp[A])];exact⟨same _ rfl rfl rfl rfl rfl rfl rfl rfl ⟨r,hr,Yw.refl r,.inl rfl,rfl,rfl⟩ (.inr ⟨r,hr,t,A,rfl,rfl⟩),fun l a=>by cases a⟩
  grind [Yw.refl]
 .rw[if_neg t];by_cases z:¬5<2*r.c.length
  .rw[if_pos z]
   grind [Te,Ba,Yw.refl]
  .rw[if_neg z];let⟨o,u⟩:=WC n r hb;refine⟨same _ rfl rfl rfl rfl rfl rfl rfl rfl ⟨_,rfl,o,.inr u,(TM n r).1,(TM n r).2⟩ (.inl ⟨D,rfl⟩),fun l a=>?_⟩;unfold US at a
   grind [Wc,Ba,SC,Qb,Yw.b]
def jv(f:n.Zo=aa)(hb:Blank n.Zc):WK n (Yj (Zt n)).n/\∀l∈(Yj (Zt n)).ls,Ba n l:=by
 have fwd:∀n:Nd,∀l∈WT n,Ba n l:=fun n l h=>by
  unfold WT at h
  grind [Ba]
 rcases UF n with⟨hr,e⟩|⟨r,hr,a,e⟩|⟨r,hr,a,e⟩
 .rw[e];unfold Yj;rw[hr];simp only;have D:WK n n:=⟨rfl,rfl,rfl,rfl,rfl,rfl,rfl,rfl,.inl ⟨hr,hr⟩,.inl ⟨f,rfl⟩⟩
  grind
 .rw[e];unfold Yj;simp only;have D:WK n { n with Zc:=aa }:=⟨rfl,rfl,rfl,rfl,rfl,rfl,rfl,rfl,.inr (.inl ⟨r,hr,a,rfl⟩),.inl ⟨f,rfl⟩⟩
  grind [Ba]
 .rw[e];unfold Yj;rw[hr];simp only;exact pO f hr a (hb r hr)
theorem YD(a:n.Zo=aa)(hb:Blank n.Zc):WK n (YH n).n/\∀l∈(YH n).ls,Ba n l:=by
 let⟨D,h⟩:=jv a hb
 grind [YH,Ba,Wi,WK.YO]
def VK(n:Nd):Prop:=∀r,n.Zc=Z r->∀s,5<2*((YF r.Xc s).getD []).length->Has n.Zi s
def jw:∀(k:Nat) (n:Nd),YF (YA k n).1.Zi ((YA k n).1.ZF.length:Int)=aa\/((YA k n).1.ZF.length=n.ZF.length+k/\∀j,j<k->(YF n.Zi ((n.ZF.length:Int)+j)).isSome=true):=by
 intro k
 induction k with
 | zero=>intro n;exact .inr ⟨rfl,fun j o=>by omega⟩
 | succ k m=>
  intro n;unfold YA
  cases h:YF n.Zi (n.ZF.length:Int) with
  | none=>exact .inl h
  | some x=>
   simp only;rcases m (XF n x) with q|⟨f,a⟩
   .exact .inl q
   .have e:(XF n x).ZF.length=n.ZF.length+1:=by unfold XF;simp
    rw[e]at f a;refine .inr ⟨uh,fun j o=>?_⟩
    cases j with
    | zero=>simp[h]
    | succ j=>
     grind [XF]
theorem AJ(n:Nd)(s:Int)(x:Cm):YF (Jj n s x).n.Zi ((Jj n s x).n.ZF.length:Int)=aa:=by
 unfold Jj;rcases jw ((X6 n s x).Zi.length+1) (X6 n s x) with q|⟨_,q⟩
 .exact q
 .have:=Db (X6 n s x).Zi (X6 n s x).ZF.length ((X6 n s x).Zi.length+1) q;omega
theorem Zd1(h:VK n)(s:Int)(x:Cm):VK (Jj n s x).n:=by
 have k:=(QK n s x).1;have hr:(Jj n s x).n.Zc=n.Zc:=by
  have:∀(k:Nat) (n:Nd),(YA k n).1.Zc=n.Zc:=by
   intro k
   induction k with
   | zero=>intro n;rfl
   | succ k f=>
    grind [XF,YA.eq_def]
  exact this _ _
 intro r e t a;rw[hr]at e;exact k.go.Zi t (h r e t a)
theorem VK.same{m:Nd}(h:VK n)(o:m.Zc=n.Zc)(f:m.Zi=n.Zi):VK m:=fun r e t a=>by
 rw[o]at e;rw[f];exact h r e t a
def AK(h:VK n)(o:YF n.Zi (n.ZF.length:Int)=aa)(l:Yt):VK (Zy n l).n/\YF (Zy n l).n.Zi ((Zy n l).n.ZF.length:Int)=aa:=by
 have D:VK (XL n l)/\YF (XL n l).Zi ((XL n l).ZF.length:Int)=aa:=by
  unfold XL;split
  .exact⟨h.same rfl rfl,o⟩
  .grind
 unfold Zy;split
 .grind [Y3,VK.same]
 split
 .unfold YI
  cases hr:n.Zc with
  | none=>grind
  | some r=>
   simp only;split
   .grind [VK,C0]
   .split
    .grind
    .have u:∀r',(Vc n r l).Zc=Z r'->∀t,t≠l.v.Zx->5<2*((YF r'.Xc t).getD []).length->Has n.Zi t:=fun r' e t f a=>by
      obtain rfl:=aag e;have a:5<2*((YF (ins r.Xc l.v.Zx (UB r l)) t).getD []).length:=a;rw[XQ,if_neg (fun q=>f q.symm)]at a;exact h r hr t a
     have hS:∀r',(Vc n r l).Zc=Z r'->(YF r'.Xc l.v.Zx).getD []=UB r l:=fun r' e=>by
      grind [Vc,XQ]
     split
     .refine⟨?_,AJ _ _ _⟩;have z:(Jj (Vc n r l) l.v.Zx l.v.cm).n.Zc=(Vc n r l).Zc:=by
       have:∀(k:Nat) (n:Nd),(YA k n).1.Zc=n.Zc:=by
        intro k
        induction k with
        | zero=>intro n;rfl
        | succ k B=>
         grind [XF,YA.eq_def]
       exact this _ _
      let⟨m,A,_⟩:=QK (Vc n r l) l.v.Zx l.v.cm;intro r' e t f;rw[z]at e;by_cases q:t=l.v.Zx
      .grind
      .exact m.go.Zi t (u r' e t q f)
     grind [VK,Vc]
 split
 .grind [asked,VK.same]
 grind [add,Q3,Zd1,AJ,VK.same]
structure PN(C:List Cm)(b:ZN)(L X:Nat)(n:Nd):Prop where
 ni:JZ C X n
 up:n.up=true
 Zn:¬Zj b n.Zn.p
 Xc:∀v∈n.Zn.l,¬Zj n.Zn.p v.b
 DL:∀p,n.Zo=Z p->¬Zj b (YM p).p/\¬Zj (YM p).p n.Zn.p/\∀v∈(YM p).l,¬Zj (YM p).p v.b
 tape:0<=n.XI/\n.XI<=(U n.data)
 Rd:X≠L->∀r,n.Zc=Z r->Zj r.b b
 Yi:X=L->∃r,n.Zc=Z r/\r.b=b
 ZZ:Blank n.Zc
 may:∀r,n.Zc=Z r->Zv r.b
 vk:VK n
 SF:YF n.Zi (n.ZF.length:Int)=aa
structure PJ(C:List Cm)(b:ZN)(l:Yt):Prop where
 li:Qt C l
 QB:l.a=0->¬Zj b l.b
 ask:l.a=2->¬Zj b l.v.b
theorem PN.le{b:ZN}{L X:Nat}(h:PN C b L X n)(hr:n.Zc=Z r):¬Zj b r.b:=by
 grind [PN.Yi,Q6,PN.Rd]
theorem YT.back{m:Nd}(k:YT n m){r':XR}(hr:m.Zc=Z r'):∃r,n.Zc=Z r/\JM r r':=by
 have q:=k.Rd;rw[hr]at q
 cases e:n.Zc with
 | none=>rw[e]at q;exact q.elim
 | some r=>rw[e]at q;exact⟨r,rfl,q⟩
theorem YT.on{m:Nd}(k:YT n m)(hr:n.Zc=Z r):∃r',m.Zc=Z r'/\JM r r':=by
 have q:=k.Rd;rw[hr]at q
 cases e:m.Zc with
 | none=>rw[e]at q;exact q.elim
 | some r'=>rw[e]at q;exact⟨r',rfl,q⟩
theorem PN.pr0{b:ZN}{L X:Nat}(h:PN C b L X n){c:ZN}(hc:Zv c)(hle:¬Zj c n.Zn.p):YX n.Zn.p n.Zn.l c=0:=by
 unfold YX;rw[if_neg (by rw[PS h.ni.Zn h.Xc];simp),if_neg (fun q=>q hc),if_neg hle]
def YT.pn{b:ZN}{L X:Nat}{m:Nd}(h:PN C b L X n)(z:JZ C X m)(k:YT n m)(t:VK m)(A:YF m.Zi (m.ZF.length:Int)=aa):PN C b L X m:=by
 refine⟨z,by rw[k.go.up];exact h.up,by rw[k.Zn];exact h.Zn,by rw[k.Zn];exact h.Xc,fun p u=>by rw[k.Zn];exact h.DL p (by rw[<-k.Zo];exact u),by rw[k.XI,k.data];exact h.tape,fun o r' hr=>?_,fun o=>?_,fun r' hr hb s=>?_,fun r' hr=>?_,t,A⟩
 .let⟨r,f,a⟩:=k.back hr;rw[a.k.b];exact h.Rd o r f
 .grind [PN.Yi,YT.on,Yw.b,JM.k]
 .let⟨r,f,a⟩:=k.back hr;rw[a.p];exact h.ZZ r f (by rw[<-a.g];exact hb) s
 .let⟨r,f,a⟩:=k.back hr;rw[a.k.b];exact h.may r f
theorem VY{a b c:ZN}(h:Zj a b)(f:¬Zj c b):Zj a c:=by unfold Zj at *;omega
section
variable {C:List Cm} {b:ZN} {L X:Nat}
theorem Jf(hX:X<5)(hC:(U C)<=100000)(hb:Zv b):Laws (PN C b L X) (PJ C b) (PJ C b):=by
 refine⟨fun n k h=>⟨h.ni.Zd k,h.up,h.Zn,h.Xc,h.DL,h.tape,h.Rd,h.Yi,h.ZZ,h.may,h.vk.same rfl rfl,h.SF⟩,fun n l h I E=>?_,fun n h I=>?_,fun n p h I=>?_⟩
 .have O:=NJ hX h.ni E.li;let⟨hk,hc⟩:=YE n l;let⟨f,N⟩:=AK h.vk h.SF l;refine⟨?_,fun m u=>⟨O.ls m u,fun e=>absurd e (hk m u).1,fun e=>absurd e (hk m u).2⟩⟩;rcases hc with k|⟨W,F,c3,c4,e⟩|⟨W,F,c3,c4,e⟩
  .exact k.pn h O.nd f N
  .have J:=O.nd;rw[e]at J f N ⊢;refine⟨J,h.up,h.Zn,h.Xc,fun p z=>?_,?_,h.Rd,h.Yi,h.ZZ,h.may,f,N⟩
   .obtain rfl:OT.QB ⟨l.b,n.Zn.l⟩ l.c l.b n.Zn.l=p:=aag z;exact⟨E.QB W,QC F,fun v f=>Xh (h.Xc v f) (QC F)⟩
   .have:=h.tape
    grind [NZ]
  .have J:=O.nd;rw[e]at J f N ⊢;refine⟨J,h.up,h.Zn,h.Xc,fun p z=>?_,?_,h.Rd,h.Yi,h.ZZ,h.may,f,N⟩
   .obtain rfl:OT.Us ⟨l.v.b,Jq n.Zn.l l.v⟩ l.c l.v=p:=aag z;refine⟨E.ask W,Q7 F,fun v f=>?_⟩;have f:v∈Jq n.Zn.l l.v:=f;show ¬Zj l.v.b v.b;unfold Jq at f;rcases ax.1 f with f|f
    .exact Xh (h.Xc v (a5.1 f).1) (Q7 F)
    .rcases List.mem_cons.1 f with rfl|f
     .exact Yv _
     .exact Xh (h.Xc v (a5.1 f).1) (Q7 F)
   .have:=h.tape
    grind [N0]
 .let⟨d1,d2,_⟩:=oK hX hC h.ni;let⟨D,hA⟩:=YD I h.ZZ;refine⟨⟨d1,by rw[D.up];exact h.up,by rw[D.Zn];exact h.Zn,by rw[D.Zn];exact h.Xc,fun p z=>?_,?_,fun R r' hr=>?_,fun R=>?_,fun r' hr bN s=>?_,fun r' hr=>?_,fun r' hr t B=>?_,by rw[D.Zi,D.ZF];exact h.SF⟩,fun l E=>⟨d2 l E,fun e=>?_,fun e=>?_⟩⟩
  .rcases D.Zo with⟨e,_⟩|⟨r,hr,W,F,_,e⟩
   .grind
   grind [YM,WK.Zn,PN.pr0,PN.may,Q6,PN.le,Xh,PN.Xc]
  .rw[D.XI];have:=h.tape;rcases D.Zo with⟨_,e⟩|⟨r,_,_,_,e,_⟩
   .grind
   grind
  .grind [WK.Rd,Yw.b,PN.Rd]
  .grind [PN.Yi,WK.Rd,PN.Zn,Yw.b]
  .rcases D.Rd with⟨_,e⟩|⟨_,_,_,e⟩|⟨r,r2,o,_,e,_,k,_,_⟩
   .grind
   .grind
   .rw[e]at hr;obtain rfl:=aag hr;rcases k with rfl|k
    .exact h.ZZ _ o bN s
    grind
  .grind [WK.Rd,Yw.b,PN.may]
  .rcases D.Rd with⟨_,e⟩|⟨_,_,_,e⟩|⟨r,r2,o,_,e,_,_,k,_⟩
   .grind
   .grind
   .rw[e]at hr;obtain rfl:=aag hr;rw[k]at B;rw[D.Zi];exact h.vk r o t B
  .let⟨r,o,_,_,A,_⟩:=hA l E (.inl e);rw[A e];exact h.le o
  .let⟨r,o,_,_,_,A,_⟩:=hA l E (.inr e);rw[A e];exact h.le o
 .let⟨f1,f2,f3,f4,_⟩:=Dq hX (Dp h.ni) (h.ni.Zo p I);have H:=h.DL p I;refine⟨?_,fun m u=>⟨f2 m u,fun e=>?_,fun e=>?_⟩⟩
  .have B:0<=(ZE n).XI/\(ZE n).XI<=(ZE n).data.length:=by
    show 0<=(if Xo n.data n.XI then ((U n.data):Int) else 0)/\(if Xo n.data n.XI then ((U n.data):Int) else 0)<=((if Xo n.data n.XI then n.data else []).length:Nat)
    split<;>simp
   cases p with
   | QB a to b' vs=>exact⟨f1,h.up,H.1,H.2.2,(fun q z=>by cases z),B,h.Rd,h.Yi,h.ZZ,h.may,h.vk.same rfl rfl,h.SF⟩
   | Us a to v=>exact⟨f1,h.up,H.1,H.2.2,(fun q z=>by cases z),B,h.Rd,h.Yi,h.ZZ,h.may,h.vk.same rfl rfl,h.SF⟩
   | Zn a vs cur=>
    have V:∀r',(Yc (ZE n) (.Zn a vs cur)).n.Zc=Z r'->∃r,n.Zc=Z r/\JM r r'/\r'.Xc=r.Xc:=fun r' hr=>by
     have hr:(if cur=true then n.Zc.map (fun r=>{ r with c:=ins r.c n.me vs }) else n.Zc)=Z r':=hr;split at hr
     .cases e:n.Zc with
      | none=>grind
      | some r=>
       rw[e]at hr;obtain rfl:=aag hr;exact⟨r,rfl,⟨⟨rfl,fun _ _ h=>h,fun h=>h,fun k h=>Has.ins h _ _,fun _ _ h=>h⟩,rfl,rfl⟩,rfl⟩
     .exact⟨r',hr,JM.refl r',rfl⟩
    refine⟨f1,h.up,H.1,H.2.2,(fun q z=>by cases z),B,fun R r' hr=>?_,fun R=>?_,fun r' hr bN s=>?_,fun r' hr=>?_,fun r' hr t B=>?_,h.SF⟩
    .let⟨r,o,A,_⟩:=V r' hr;rw[A.k.b];exact h.Rd R r o
    .grind [Yc,ZE,PN.Yi]
    .let⟨r,o,A,_⟩:=V r' hr;rw[A.p];exact h.ZZ r o (by rw[<-A.g];exact bN) s
    .let⟨r,o,A,_⟩:=V r' hr;rw[A.k.b];exact h.may r o
    .let⟨r,o,_,h3⟩:=V r' hr;rw[h3]at B;exact h.vk r o t B
  .cases p with
   | QB a to b' vs=>rw[am.1 u]at e;cases e
   | Us a to v=>rw[am.1 u]at e;cases e
   | Zn a vs cur=>cases u
  .cases p with
   | QB a to b' vs=>rw[am.1 u]at e;cases e
   | Us a to v=>rw[am.1 u]at e;cases e
   | Zn a vs cur=>cases u
end
structure PW(C:List Cm)(b:ZN)(L:Nat)(w:Wd):Prop where
 nd:∀X,X<5->PN C b L X (w.Za X)
 WM:∀l∈w.b,PJ C b l
 JC:∀X,X<5->∀l∈(w.Za X).Zd,PJ C b l
def Clear(w:Wd):Prop:=∀X,X<5->Qm (w.Za X)
section
variable {C:List Cm} {b:ZN} {L:Nat} {w:Wd}
theorem Vx(h:PW C b L w)(hC:(U C)<=100000)(hb:Zv b){X:Nat}(a:X<5):PN C b L X (step (w.Za X)).n/\(∀m∈(step (w.Za X)).ls,PJ C b m)/\∀l∈(step (w.Za X)).n.Zd,l∈(w.Za X).Zd:=
 PT (Jf a hC hb) (h.nd X a).up (h.nd X a) (h.JC X a)
def Zh2(h:PW C b L w)(hC:(U C)<=100000)(hb:Zv b):∀l∈Qw w,PJ C b l:=fun l a=>by
 rcases JI.1 a with q|⟨i,hi,q⟩
 .exact h.WM l q
 .exact (Vx h hC hb hi).2.1 l q
def Zd2(h:PW C b L w)(hC:(U C)<=100000)(hb:Zv b):PW C b L (C9 w):=by
 refine⟨fun X a=>?_,fun l f=>(by rw[Is]at f;cases f),fun X a l f=>?_⟩
 .grind [step,Qg,PN.up,Laws.box,Jf,Vx]
 .rcases (TD a (h.nd X a).up).1 f with q|⟨q,_⟩
  .exact h.JC X a l ((Vx h hC hb a).2.2 l q)
  .exact Zh2 h hC hb l q
def DM(h:PW C b L w)(hC:(U C)<=100000)(hb:Zv b){X:Nat}(a:X<5){A G:Yt->Prop}{E F:Nd->Prop}(H:Q8 (PN C b L X) (PJ C b) A G E F)(o:Src A E F (w.Za X)):
  (Src A E F ((C9 w).Za X)\/∃m∈Qw w,G m)/\(Qm (w.Za X)->E ((C9 w).Za X)\/∃m∈Qw w,G m):=by
 have f:=(h.nd X a).up;let⟨u,t⟩:=jr (Jf a hC hb) H f (h.nd X a) (h.JC X a) o
 grind [JI,Src,Qg,Q8.a,Q8.yS]
def pP{A:Yt->Prop}{E F:Nd->Prop}{Y:Nat}(o:Y<5)(a:(w.Za Y).up=true)(h:∃m∈Qw w,A m)(f:∀m,A m->m.to.toNat=Y):Src A E F ((C9 w).Za Y):=by
 grind [Src,TD]
end
def Full(n:Nd):Prop:=99900<(U n.data)
section
variable {C:List Cm} {b:ZN} {L X:Nat}
def jx(h:PN C b L X n):(ZE n).data=n.data/\(ZE n).XI=(U n.data):=by
 have a:Xo n.data n.XI:=⟨h.ni.data,h.tape.1,h.tape.2⟩
 grind [ZE]
def jy(h:PN C b L X n)(p:OT):(Yc (ZE n) p).n.data=n.data:=by
 cases p<;>exact (jx h).1
def Full.pL(h:Full n)(l:Yt):Full (Zy n l).n:=by
 rcases (YE n l).2 with k|⟨_,_,_,_,e⟩|⟨_,_,_,_,e⟩
 .unfold Full;rw[k.data];exact h
 .grind [Full,NZ]
 grind [Full,N0]
def Full.dty(h:Full n)(D:WK n (YH n).n):Full (YH n).n:=by
 unfold Full at h ⊢;rcases D.Zo with⟨_,e⟩|⟨_,_,_,_,e,_⟩
 .grind
 grind
def Full.fin(a:Full n)(h:PN C b L X n)(p:OT):Full (Yc (ZE n) p).n:=by
 unfold Full;rw[jy h];exact a
def jz(h:PN C b L X n){k:Nat}(m:k<=33)(a:Qz n.data n.XI k≠0):Full n:=by
 have f:Xo n.data n.XI:=⟨h.ni.data,h.tape.1,h.tape.2⟩
 unfold Qz at a
 grind [Full]
theorem DN(h:PN C b L X n){c:ZN}(hc:Zv c)(a:JS n.data n.XI c≠0):Full n:=by
 have f:Xo n.data n.XI:=⟨h.ni.data,h.tape.1,h.tape.2⟩
 unfold JS at a;rw[if_neg (fun q=>q f),if_neg (fun q=>q hc)]at a;exact jz h uh a
theorem jA(h:PN C b L X n){v:Vt}(f:Yz v)(a:QS n.data n.XI v≠0):Full n:=by
 have m:Xo n.data n.XI:=⟨h.ni.data,h.tape.1,h.tape.2⟩
 unfold QS at a;rw[if_neg (fun q=>q m),if_neg (fun q=>q f)]at a;exact jz h uh a
def Zh3(hr:n.Zc=Z r)(l:Yt):∃r',(Zy n l).n.Zc=Z r'/\JM r r':=by
 grind [NZ,N0,YE,YT.on,JM.refl]
def Zh4(hr:n.Zc=Z r)(p:OT):∃r',(Yc (ZE n) p).n.Zc=Z r'/\Yw r r':=by
 cases p with
 | QB a to f vs=>exact⟨r,hr,Yw.refl r⟩
 | Us a to v=>exact⟨r,hr,Yw.refl r⟩
 | Zn a vs cur=>
  show ∃r',(if cur=true then n.Zc.map (fun r=>{ r with c:=ins r.c n.me vs }) else n.Zc)=Z r'/\Yw r r';rw[hr];split
  .exact⟨_,rfl,⟨rfl,fun _ _ h=>h,fun h=>h,fun k h=>Has.ins h _ _,fun _ _ h=>h⟩⟩
  .exact⟨r,rfl,Yw.refl r⟩
end
def PN.ac0{b:ZN}{L X:Nat}(h:PN C b L X n){v:Vt}(a:Yz v)(hle:¬Zj v.b n.Zn.p):Xw n.Zn.p n.Zn.l v=0:=by
 unfold Xw;rw[if_neg (by rw[PS h.ni.Zn h.Xc];simp),if_neg (fun q=>q a),if_neg hle]
def Laws.and{I:Nd->Prop}{J K:Yt->Prop}{E:Nd->Prop}(W:Laws I J K)(u:∀n k,E n->E { n with Zd:=k })(t:∀n l,I n->n.Zo=aa->J l->E n->E (Zy n l).n)(o:∀n,I n->n.Zo=aa->E n->E (YH n).n)(m:∀n p,I n->n.Zo=Z p->E n->E (Yc (ZE n) p).n):Laws (fun n=>I n/\E n) J K:=
 ⟨fun n k h=>⟨W.box n k h.1,u n k h.2⟩,fun n l h a f=>⟨⟨(W.pL n l h.1 a f).1,t n l h.1 a f h.2⟩,(W.pL n l h.1 a f).2⟩,fun n h a=>⟨⟨(W.dty n h.1 a).1,o n h.1 a h.2⟩,(W.dty n h.1 a).2⟩,fun n p h a=>⟨⟨(W.fin n p h.1 a).1,m n p h.1 a h.2⟩,(W.fin n p h.1 a).2⟩⟩
def It(n:Nd)(l:Yt):VX n (Zy n l).n:=by
 grind [NZ,N0,YE,YT.go,VX.same]
def Iu(n:Nd)(p:OT):VX n (Yc (ZE n) p).n:=by
 cases p<;>exact .same rfl rfl rfl rfl rfl
section
variable {C:List Cm} {b:ZN} {L X Y:Nat} {G:Yt->Prop}
def yV{j:Int}(h:Has n.Zi j)(l:Yt):Has (Zy n l).n.Zi j:=(It n l).Zi j h
def yW{j:Int}(h:Has n.Zi j)(a:n.Zo=aa)(f:PN C b L X n):Has (YH n).n.Zi j:=by rw[(YD a f.ZZ).1.Zi];exact h
def yX{j:Int}(h:Has n.Zi j)(p:OT):Has (Yc (ZE n) p).n.Zi j:=(Iu n p).Zi j h
theorem Zh5(h:PN C b L X n){p:OT}(a:n.Zo=Z p):(Yc (ZE n) p).n.Zn=YM p:=by
 cases p<;>rfl
theorem Jm:∀(k:List Yt) (n:Nd),(Zw n k).n.Zo=aa->YT n (Zw n k).n:=by
 intro k
 induction k with
 | nil=>intro n _;unfold Zw;exact⟨.same rfl rfl rfl rfl rfl,rfl,rfl,rfl,rfl,Va.refl _⟩
 | cons l k a=>
  intro n h;unfold Zw at h ⊢;by_cases f:n.Zo.isSome=true
  .grind
  .rw[if_neg f]at h ⊢;have h:(Zw (Zy { n with Zd:=k } l).n k).n.Zo=aa:=h;have K:=a _ h;have m:(Zy { n with Zd:=k } l).n.Zo=aa:=by rw[<-K.Zo];exact h
   have o:YT n { n with Zd:=k }:=⟨.same rfl rfl rfl rfl rfl,rfl,rfl,rfl,rfl,Va.refl _⟩
   grind [NZ,N0,YE,YT.trans]
theorem cQ{l:Yt}(h:l∈(Yj (Zt n)).ls):l∈(YH n).ls:=by
 grind [YH]
def Iv:(YH n).n.Zc=(Yj (Zt n)).n.Zc/\(YH n).n.Zo=(Yj (Zt n)).n.Zo/\(YH n).n.data=(Yj (Zt n)).n.data:=by
 grind [YH,JT]
theorem pQ(n:Nd):(Yj (Zt n)).n.YO=n.YO/\(Yj (Zt n)).n.ZF=n.ZF/\(Yj (Zt n)).n.me=n.me:=by
 have a:(Zt n).YO=n.YO/\(Zt n).ZF=n.ZF/\(Zt n).me=n.me:=by
  rcases UF n with⟨_,e⟩|⟨_,_,_,e⟩|⟨_,_,_,e⟩<;>rw[e]<;>exact⟨rfl,rfl,rfl⟩
 grind [Yj,Jc]
def yZ(f:(YH n).n.Zo=aa):(YH n).n.YO=(n.YO+1)%5/\((YH n).n.YO≠n.me->n.ZF.length<40->∃a,(⟨5,n.me,(YH n).n.YO,a,Qb n.ZF.length Y2 Ag,[]⟩:Yt)∈(YH n).ls):=by
 grind [YH,pQ,JT,Wi]
end
def Occ(n:Nd)(r:XR)(t:Nat):Prop:=Has r.ZQ t\/Has n.Zi t
def GN{x:Cm}:∀(k s t:Nat),(∀u,u<s->Occ n r u)->Uj n r x k s=Z t->∀u,u<t->Occ n r u:=by
 intro k
 induction k with
 | zero=>intro s t _ a;cases a
 | succ k f=>
  grind [Occ,Uj.eq_def,Has]
section
variable {C:List Cm} {b:ZN} {L X:Nat} {w:Wd}
def pR(h:PW C b L w)(hC:(U C)<=100000)(hb:Zv b)(a:X<5)(f:Qm (w.Za X)):∃d:Nd,PN C b L X d/\d.Zo=aa/\YT (w.Za X) d/\(∀l∈(YH d).ls,l∈Qw w) /\
  ∃k,(C9 w).Za X = { (YH d).n with Zd:=k }:=by
 have m:=(h.nd X a).up;have t:=XH (Jf (C:=C) (b:=b) (L:=L) a hC hb) (w.Za X).Zd (w.Za X) (h.nd X a) (h.JC X a);have o:=Xi m f;refine⟨(Zw (w.Za X) (w.Za X).Zd).n,t.1,f.2,Jm _ _ f.2,fun l u=>JI.2 (.inr ⟨X,a,zK⟩),?_⟩;rw[Qg w X a m,o]
 grind
end
def Ct(w:Nat->Wd):Nat->Nat->Prop
 | _,0=>True
 | 0,_+1=>False
 | t+1,k+1=>Ct w t (k+1)\/(Clear (w t)/\Ct w t k)
def sh{α:Type}(w:Nat->α)(a:Nat):Nat->α:=fun t=>w (a+t)
theorem Ct.zero(w:Nat->Wd)(t:Nat):Ct w t 0:=by cases t<;>exact trivial
section
variable {S:Cm->Prop} {C:List Cm} {b:ZN} {L T:Nat} {w:Nat->Wd} {g:Nat->Gh} {M:Nat->Nat->ZN}
def UJ(b:ZN)(l:Yt):Prop:=(l.a=0->l.b≠b)/\(l.a=2->l.v.b≠b)
theorem N9{a c:ZN}(h:Zj a c):a≠c:=fun e=>Yv c zK
end
theorem PU:∀(k:List Yt) (n:Nd),∀m∈(Zw n k).ls,m.a≠0/\m.a≠2:=by
 intro k
 induction k with
 | nil=>intro n m a;unfold Zw at a;cases a
 | cons l k f=>
  grind [Zw.eq_def,YE]
theorem zd(n:Nd)(p:OT):∀m∈(Yc n p).ls,m.a≠0/\m.a≠2:=fun m f=>by
 cases p with
 | QB a to h vs=>rw[am.1 f];grind
 | Us a to v=>rw[am.1 f];grind
 | Zn a vs cur=>cases f
section
variable {S:Cm->Prop} {C:List Cm} {b:ZN} {L T:Nat} {w:Nat->Wd} {g:Nat->Gh} {M:Nat->Nat->ZN}
end
section
variable {S:Cm->Prop} {C:List Cm} {b:ZN} {L T:Nat} {w:Nat->Wd} {g:Nat->Gh} {M:Nat->Nat->ZN}
def PN.Zl5{X:Nat}(h:PN C b L X n){s:Nat}(a:∀u,u<=s->Has n.Zi (u:Int)):s<n.ZF.length:=by
 by_cases q:n.ZF.length<=s
 .exact absurd h.SF (a _ q)
 .omega
end
structure Vw where
 H:List (Nat × ZN × Int × Bool)
 B:List ZN
 K:List ZN
 T:Nat
def Vw.cost(v:Vw):Nat:=v.H.length+v.B.length+v.K.length+v.T
def Dn(v:Vw)(i:Nat)(b:ZN)(s:Int):Prop:=(i,b,s,false)∈v.H/\(i,b,s,true)∈v.H
def Uv(v:Vw)(s:Nat):Prop:=∃i b,Dn v i b s
def Vy(v:Vw)(s:Nat):Prop:=∃b Q,Co Q/\∀i∈Q,Dn v i b s
def RU(P:Nat->Prop)(s k:Nat):Prop:=∀L:List Nat,L.Nodup->(∀x∈L,x<s/\¬P x)->(U L)<=k
def gT(v:Vw):Nat:=(19+v.T)/5
structure Vw.Le(v w:Vw):Prop where
 h:∀x∈v.H,x∈w.H
 b:∀(i:Nat) x,v.B[i]? = Z x->w.B[i]? = Z x
 k:∀x∈v.K,x∈w.K
 t:v.T<=w.T
theorem Vw.Le.refl(v:Vw):v.Le v:=⟨fun _ h=>h,fun _ _ h=>h,fun _ h=>h,an _⟩
def Vw.Le.trans{u v w:Vw}(h:u.Le v)(k:v.Le w):u.Le w:=⟨fun x e=>k.h x (h.h x e),fun i x e=>k.b i x (h.b i x e),fun x e=>k.k x (h.k x e),Nat.le_trans h.t k.t⟩
section
variable {P P':Nat->Prop} {s s' k k':Nat} {v w:Vw}
theorem RU.up(h:RU P s k)(o:∀x,P x->P' x)(f:s'<=s)(m:k<=k'):RU P' s' k':=fun L n q=>
 Nat.le_trans (h L n fun x a=>⟨Nat.lt_of_lt_of_le (q x a).1 f,fun e=>(q x a).2 (o x e)⟩) m
def RU.next(f:P s)(h:RU P s k):RU P (s+1) k:=fun L n q=>h L n fun x a=>by
 grind
def RU.ZAO:∀s,(∀t,t<s->P t\/RU P t k)->RU P s (k+1):=by
 intro s
 induction s with
 | zero=>
  intro _ L _ q
  cases L with
  | nil=>simp
  | cons x L=>have:=(q x zX).1;omega
 | succ s a=>
  intro h L n q;by_cases e:s∈L
  .have o:=(h s uh).resolve_left (q s e).2 (L.erase s) (n.erase s) (fun x f=>by
    grind)
   grind
  .exact a (fun t m=>h t uh) L n fun x f=>by
    grind
def MB(e:Nat)(L:List Nat):(U L)=(L.filter (fun x=>decide (x<e))).length+(L.filter (fun x=>decide (e<=x))).length:=by
 induction L with
 | nil=>rfl
 | cons x L a=>
  grind
def RU.add{e d:Nat}(h:RU P e k)(f:∀L:List Nat,L.Nodup->(∀x∈L,e<=x/\x<s/\¬P x)->(U L)<=d):RU P s (k+d):=fun L n q=>by
 rw[MB e L];refine Nat.add_le_add (h _ (n.filter _) fun x a=>?_) (f _ (n.filter _) fun x a=>?_)
 .grind
 grind
theorem Vw.Le.dn(h:v.Le w){i:Nat}{b:ZN}{s:Int}(d:Dn v i b s):Dn w i b s:=⟨h.h _ d.1,h.h _ d.2⟩
theorem Vw.Le.u(h:v.Le w)(s:Nat):Uv v s->Uv w s:=fun⟨i,b,d⟩=>⟨i,b,h.dn d⟩
theorem Vw.Le.ch(h:v.Le w)(s:Nat):Vy v s->Vy w s:=fun⟨b,Q,q,d⟩=>⟨b,Q,q,fun i hi=>h.dn (d i hi)⟩
def Vw.Le.mb(h:v.Le w){x:ZN}(e:x∈v.B):x∈w.B:=by
 let⟨i,e⟩:=a6.1 e;exact a6.2 ⟨i,h.b i x e⟩
theorem Vw.Le.g(h:v.Le w):gT v<=gT w:=aH (by have:=h.t;omega)
theorem Vy.u(h:Vy v s):Uv v s:=by
 grind [Vy,Uv,Co.meet]
end
def SX(v:Vw)(c d:Nat)(x:Vt):Prop:=0<=x.Zx/\x.Zx<40/\∃i,v.B[i]? = Z x.b/\RU (Vy v) (x.Zx.toNat+1) (c*(i+1))/\RU (Uv v) (x.Zx.toNat+1) (gT v+1+d)
def K0(v:Vw)(b:ZN):Prop:=b=Y2\/b∈v.K
def Pm(v:Vw)(i:Nat)(b:ZN):Prop:=Dn v i b (-1)\/b∈v.B
section
variable {v w:Vw} {c d:Nat}
def SX.up(L:v.Le w){x:Vt}(h:SX v c d x):SX w c d x:=by
 let⟨t,o,i,m,f,a⟩:=h;exact⟨t,o,i,L.b _ _ m,f.up L.ch (an _) (an _),a.up L.u (an _) (by have:=L.g;omega)⟩
def K0.up(L:v.Le w){b:ZN}(h:K0 v b):K0 w b:=h.imp_right (L.k b)
def Pm.up(L:v.Le w){i:Nat}{b:ZN}(h:Pm v i b):Pm w i b:=h.imp L.dn L.mb
end
def FI(v:Vw)(p:ZN)(k:List Yt):Prop:=∀a l c,k=a++l :: c->l.a=2->∀t:Nat,(t:Int)<l.v.Zx->Uv v t\/(∃m∈a,m.a=2/\m.v.b=l.v.b/\m.v.Zx=(t:Int))\/RU (Uv v) t (gT v)\/Zj l.v.b p
def FJ(v:Vw)(k:List Yt):Prop:=∀a l c,k=a++l :: c->l.a=2->RU (Uv v) l.v.Zx.toNat (((U a)+v.T)/5)
section
variable {v w:Vw} {p q:ZN} {k j:List Yt} {l:Yt}
theorem DO{a b c:ZN}(h:Zj a b)(k:¬Zj c b):Zj a c:=by unfold Zj at *;omega
theorem FI.nil:FI v p []:=fun a l c e=>by simp at e
theorem FI.up(L:v.Le w)(m:¬Zj q p)(h:FI v p k):FI w q k:=fun a l c e o t f=>by
 rcases h a l c e o t f with h|h|h|h
 .exact .inl (L.u _ h)
 .grind
 .exact .inr (.inr (.inl (h.up L.u (an _) L.g)))
 .exact .inr (.inr (.inr (DO h m)))
def PY{α:Type}{k j a c:List α}{l:α}(h:k++j=a++l :: c):(∃c',k=a++l :: c'/\c=c'++j)\/∃f,a=k++f/\j=f++l :: c:=by
 rcases List.append_eq_append_iff.1 h with⟨x,o,m⟩|⟨x,o,m⟩
 .grind
 .cases x with
  | nil=>grind
  | cons y x=>
   grind
theorem FI.app(h:FI v p k)(z:FI v p j):FI v p (k++j):=fun a l c e o t f=>by
 rcases PY e with⟨c',u,_⟩|⟨B,u,A⟩
 .exact h a l c' u o t f
 .exact (z B l c A o t f).imp_right (Or.imp_left fun⟨m,D,q⟩=>⟨m,zK,q⟩)
theorem FI.one(h:l.a=2->RU (Uv v) l.v.Zx.toNat (gT v)):FI v p [l]:=fun a m c e o t f=>by
 have u:a=[]/\l=m:=by
  cases a with
  | nil=>grind
  | cons x a=>simp at e
 grind [RU.up]
theorem FI.plain(h:∀l∈k,l.a≠2):FI v p k:=fun a l c e f=>absurd f (h l (by rw[e];simp))
theorem FI.tail(h:FI v p (l :: k))(o:l.a=2->Uv v l.v.Zx.toNat\/Zj l.v.b p):FI v p k:=fun a m c e u t f=>by
 grind [FI]
def FI.head{l':Yt}(h:FI v p (l :: k))(z:l'.a=l.a)(u:l'.v=l.v):FI v p (l' :: k):=fun a m c e o t f=>by
 cases a with
 | nil=>
  simp only[a4,List.cons.injEq]at e;obtain⟨rfl,rfl⟩:=e;have:=h [] l k rfl zK t zK
  grind
 | cons y a=>
  grind [FI]
def FI.here(h:FI v p (l :: k))(f:l.a=2)(hb:¬Zj l.v.b p)(o:0<=l.v.Zx):RU (Uv v) l.v.Zx.toNat (gT v+1):=RU.ZAO _ fun t m=>by
 rcases h [] l k rfl f t uh with h|⟨x,a,_⟩|h|h
 .exact .inl h
 .cases a
 .exact .inr h
 grind
theorem FI.out{a c:List Yt}(h:FI v p (a++l :: c))(H:l.a=2->RU (Uv v) l.v.Zx.toNat (gT v)):FI v p (a++c):=fun A m c' e o t f=>by
 rcases PY e with⟨x,u,_⟩|⟨x,u,z⟩
 .exact h A m (x++l :: c) (by rw[u];simp) o t f
 .rcases h (a++l :: x) m c' (by rw[z];simp) o t f with h|⟨y,F,E,D,B⟩|h
  .exact .inl h
  .grind
  grind
theorem FJ.nil:FJ v []:=fun a l c e=>by simp at e
def FJ.up(L:v.Le w)(h:FJ v k):FJ w k:=fun a l c e f=>(h a l c e f).up L.u (an _) (aH (by have:=L.t;omega))
def FJ.app(h:FJ v k)(o:FJ v j):FJ v (k++j):=fun a l c e f=>by
 rcases PY e with⟨c',m,_⟩|⟨u,m,t⟩
 .exact h a l c' m f
 .exact (o u l c t f).up (fun _ h=>h) (an _) (aH zK)
def FJ.plain(h:∀l∈k,l.a≠2):FJ v k:=fun a l c e f=>absurd f (h l (by rw[e];simp))
theorem FJ.out{a c:List Yt}(h:FJ v (a++l :: c))(L:v.Le w)(z:v.T+1<=w.T):FJ w (a++c):=fun u m c' e f=>by
 rcases PY e with⟨x,o,_⟩|⟨x,o,t⟩
 .exact (h u m (x++l :: c) (by rw[o];simp) f).up L.u (an _) (aH uh)
 .exact (h (a++l :: x) m c' (by rw[t];simp) f).up L.u (an _) (aH zK)
def DP{α:Type}(f:Nat->List α):∀n (a:List α) l c,(aW n).flatMap f=a++l :: c->∃s,s<n/\l∈f s/\∃q,a=(aW s).flatMap f++q:=by
 intro n
 induction n with
 | zero=>intro a l c e;simp at e
 | succ n m=>
  intro a l c e;rw[aS,a8]at e;rcases PY e with⟨x,h,_⟩|⟨x,h,o⟩
  .grind
  grind
def ze{α:Type}(f:Nat->List α):∀s (L:List Nat),L.Nodup->(∀x∈L,x<s/\5<=(f x).length)->5*(U L)<=((aW s).flatMap f).length:=by
 intro s
 induction s with
 | zero=>
  intro L _ q
  cases L with
  | nil=>simp
  | cons x L=>have:=(q x zX).1;omega
 | succ s a=>
  intro L n q;rw[aS,a8,aq];have es:([s].flatMap f).length=(f s).length:=zX;by_cases e:s∈L
  .have m:=a (L.erase s) (n.erase s) (fun x h=>by
    grind)
   grind
  .have:=a L n fun x h=>by
    grind
   omega
end
structure Rr(C:List Cm)(v:Vw)(kn pr:List (Int × Cm))(e:Nat):Prop where
 SF:∀s:Nat,Has pr s->s<40/\∀t:Nat,t<s->Has pr t\/Has kn t
 cmd:∀(s:Nat) x,e<=s->YF pr s=Z x->x∈C
 inj:∀(s t:Nat) x,e<=t->t<s->YF pr s=Z x->YF pr t=Z x->Vy v t
def Jr{β:Type}{l:List (Int × β)}{k:Int}(h:Has l k):∃x,YF l k=Z x:=by
 cases e:YF l k with
 | none=>exact absurd e h
 | some x=>grind
theorem UG{β:Type}{l:List (Int × β)}{k:Int}{x:β}(h:YF l k=Z x):Has l k:=fun e=>by grind
section
variable {C:List Cm} {v w:Vw} {kn kn' pr:List (Int × Cm)} {e:Nat}
def Rr.up(L:v.Le w)(h:∀s:Int,Has kn s->Has kn' s)(R:Rr C v kn pr e):Rr C w kn' pr e:=
 ⟨fun s a=>⟨(R.SF s a).1,fun t f=>((R.SF s a).2 t f).imp_right (h t)⟩,R.cmd,fun s t x z u o m=>L.ch _ (R.inj s t x z u o m)⟩
def Rr.ig{P:Nat->Prop}(R:Rr C v kn pr e)(hC:∀t,Vy v t->P t)(H:∀t:Nat,Has kn t->Vy v t){β:Nat}(h:RU P e β){s:Nat}(D:Has pr s):RU P (s+1) (β+(U C)):=h.add fun L n q=>by
 have o:∀x∈L,Has pr x:=fun x f=>by
  let⟨_,F,E⟩:=q x f;by_cases e:x=s
  .grind
  .rcases (R.SF s D).2 x uh with h|h
   .exact h
   grind
 have n2:(L.map fun x:Nat=>(YF pr (x:Int)).getD Ag).Nodup:=by
  refine List.pairwise_map.2 (List.Pairwise.imp_of_mem (fun {a b} u hb I B=>?_) n);let⟨x,f⟩:=Jr (o a u);let⟨y,m⟩:=Jr (o b hb);rw[f,m]at B;obtain rfl:x=y:=B;have:a<b\/b<a:=uh;rcases this with h|h
  .exact (q a u).2.2 (hC _ (R.inj b a x (q a u).1 h m f))
  .exact (q b hb).2.2 (hC _ (R.inj a b x (q b hb).1 h f m))
 have:=YS (C:=C) n2 fun y m=>by
  obtain⟨x,f,rfl⟩:=aC.1 m;let⟨z,A⟩:=Jr (o x f);rw[A];exact R.cmd x z (q x f).1 A
 grind
def AL{x:Cm}:∀(k s t:Nat),Uj n r x k s=Z t->∀u:Nat,s<=u->u<t->YF r.ZQ (u:Int)≠Z x:=by
 intro k
 induction k with
 | zero=>intro s t h;cases h
 | succ k a=>
  intro s t h u o f;unfold Uj at h;split at h
  .cases h
  .rename_i m;split at h
   .grind
   .by_cases e:u=s
    .grind
    .exact a (s+1) t h u uh f
def Rr.one{x:Cm}(R:Rr C v n.Zi r.ZQ e)(W:∀t:Nat,Has n.Zi t->Vy v t)(D:∀t,t<n.ZF.length->Has n.Zi (t:Int))(hL:n.ZF.length<=40)(V:x∈C):Rr C v n.Zi (Qk n r x).ZQ e:=by
 unfold Qk;split
 .rename_i s A;let⟨J,I,B,H⟩:=Mz _ _ _ A;have o:=GN _ _ _ (fun u m=>.inr (D u m)) A;have O:=AL _ _ _ A;have li:∀t:Nat,YF (ins r.ZQ (s:Int) x) (t:Int)=if t=s then Z x else YF r.ZQ (t:Int):=fun t=>by
   grind [XQ]
  have N:¬Has r.ZQ (s:Int):=fun h=>h B;refine⟨fun t a=>?_,fun t y F E=>?_,fun t u y F E f z=>?_⟩
  .show t<40/\∀u:Nat,u<t->Has (ins r.ZQ (s:Int) x) u\/Has n.Zi u;have T7:∀u:Nat,Has r.ZQ u\/Has n.Zi u->Has (ins r.ZQ (s:Int) x) u\/Has n.Zi u:=fun u h=>h.imp_left fun h=>h.ins _ _;by_cases e:t=s
   .exact⟨uh,fun u m=>T7 u (o u uh)⟩
   .have a:Has r.ZQ (t:Int):=by
     have a:Has (ins r.ZQ (s:Int) x) (t:Int):=a;unfold Has at a;rw[li,if_neg e]at a;exact a
    exact⟨(R.SF t a).1,fun u m=>T7 u ((R.SF t a).2 u m)⟩
  .grind [Rr.cmd]
  .have f:YF (ins r.ZQ (s:Int) x) (t:Int)=Z y:=f;have z:YF (ins r.ZQ (s:Int) x) (u:Int)=Z y:=z;rw[li]at f z;split at z
   .rename_i e4;rw[if_neg uh]at f;rcases (R.SF t (UG f)).2 s uh with q|q
    .grind
    grind
   grind [Rr.inj]
 .exact R
theorem Rr.all(o:∀t:Nat,Has n.Zi t->Vy v t)(m:∀t,t<n.ZF.length->Has n.Zi (t:Int))(hL:n.ZF.length<=40):∀(l:List Cm) (r:XR),(∀x∈l,x∈C)->Rr C v n.Zi r.ZQ e->Rr C v n.Zi (XS n r l).ZQ e:=by
 intro l
 induction l with
 | nil=>intro r _ R;exact R
 | cons x l a=>intro r h R;exact a _ (fun y f=>h y (by simp[f])) (R.one o m hL (h x zX))
def Rr.begin(h:PO r)(hr:∀s,YF r.ZQ s=aa)(B:∀t,t<n.ZF.length->Has n.Zi (t:Int)):Rr C v n.Zi (Qs n r).ZQ (WS (Yu r).flatten+1).toNat:=by
 let⟨f,D,_⟩:=LC n (Yu r) ((WS (Yu r).flatten+1).toNat-n.ZF.length) n.ZF.length r.ZQ;have A:=cG h;have YG:∀(s:Nat) y,YF (Qs n r).ZQ (s:Int)=Z y->n.ZF.length<=s/\s<(WS (Yu r).flatten+1).toNat:=fun s y e=>by
  rcases f s y e with q|⟨t,u,o,m,_⟩
  .grind
  .omega
 refine⟨fun s a=>?_,fun s x q e=>?_,fun s t x q _ _ e=>?_⟩
 .let⟨y,z⟩:=Jr a
  grind [Has,Qs]
 .grind
 grind
end
structure RV(C:List Cm)(v:Vw)(X:Nat)(kn:List (Int × Cm))(r:XR):Prop where
 ZM:r.b.n=X
 a:r.b∈v.K
 c:∀j vs,YF r.c j=Z vs->Pm v j.toNat r.b/\∀x∈vs,SX v (U C) 0 x
 Xc:∀s K j,YF r.Xc s=Z K->YF K j=Z ()->Dn v j.toNat r.b s
 new:r.a=false->r.b ∉ v.B/\∀s,YF r.ZQ s=aa
 T7:r.a=true->∃i e,v.B[i]? = Z r.b/\RU (Vy v) e ((U C)*i)/\RU (Uv v) e (gT v+1)/\Rr C v kn r.ZQ e
structure LV(c:Nat)(v:Vw)(l:Yt):Prop where
 b:K0 v l.b
 pre:l.a=0->l.b∈v.K
 QB:l.a=1->Pm v l.c.toNat l.b/\∀x∈l.vs,SX v c 0 x
 ask:l.a=2->SX v c c l.v
 Us:l.a=3->Dn v l.c.toNat l.v.b l.v.Zx
 cho:l.a=6->Vy v l.v.Zx.toNat
def toX(X:Nat)(l:Yt):Bool:=decide (l.to.toNat=X)
section
variable {C:List Cm} {v w:Vw} {X:Nat} {kn kn':List (Int × Cm)} {r:XR} {n:Nd}
theorem LV.up(L:v.Le w){c:Nat}{l:Yt}(h:LV c v l):LV c w l:=
 ⟨h.b.up L,fun e=>L.k _ (h.pre e),fun e=>⟨(h.QB e).1.up L,fun x a=>((h.QB e).2 x a).up L⟩,fun e=>(h.ask e).up L,fun e=>L.dn (h.Us e),fun e=>L.ch _ (h.cho e)⟩
def RV.up(L:v.Le w)(m:r.b∈w.B->r.b∈v.B)(f:∀s:Int,Has kn s->Has kn' s)(h:RV C v X kn r):RV C w X kn' r:=by
 refine⟨h.ZM,L.k _ h.a,fun j vs e=>⟨(h.c j vs e).1.up L,fun x a=>((h.c j vs e).2 x a).up L⟩,fun s K j B A=>L.dn (h.Xc s K j B A),fun e=>⟨fun q=>(h.new e).1 (m q),(h.new e).2⟩,fun e=>?_⟩;let⟨i,D,z,u,t,o⟩:=h.T7 e;exact⟨i,D,L.b _ _ z,u.up L.ch (an _) (an _),t.up L.u (an _) (by have:=L.g;omega),o.up L f⟩
def RV.rules(V:RV C v X n.Zi r)(N:PO r)(H:∀t:Nat,Has n.Zi t->Vy v t)(A:∀t,t<n.ZF.length->Has n.Zi (t:Int))(hL:n.ZF.length<=40)(F:∀x∈n.ZD,x∈C):
  ∃w:Vw,v.Le w/\w.cost<=v.cost+1/\(w.H=v.H/\w.K=v.K/\w.T=v.T)/\(w.B=v.B\/w.B=v.B++[r.b]/\r.a=false)/\RV C w X n.Zi (Xs n r)/\(Xs n r).a=true:=by
 let⟨a,hb⟩:=WC n r (fun e=>(V.new e).2);let⟨J,D⟩:=TM n r;by_cases c:r.a=true
 .refine⟨v,.refl v,Nat.le_succ _,⟨rfl,rfl,rfl⟩,.inl rfl,⟨by rw[a.b];exact V.ZM,by rw[a.b];exact V.a,by rw[D,a.b];exact V.c,by rw[J,a.b];exact V.Xc,(fun e=>by grind),fun _=>?_⟩,hb⟩;let⟨i,e,u,o,I,h4⟩:=V.T7 c;refine⟨i,e,by rw[a.b];exact u,o,I,?_⟩
  grind [Xs,Rr.all]
 .have E:r.a=false:=by simpa using c
  obtain⟨w,hw⟩:∃w:Vw,w = { v with B:=v.B++[r.b] }:=⟨_,rfl⟩
  have L:v.Le w:=by
   rw[hw];refine⟨fun x h=>h,fun i x h=>?_,fun x h=>h,an _⟩;show (v.B++[r.b])[i]? = Z x;rw[List.getElem?_append_left (List.getElem?_eq_some_iff.1 h).1];exact h
  have O:∀t:Nat,Has n.Zi t->Vy w t:=fun t h=>L.ch _ (H t h);have V2:∀(j:Int) vs,YF r.c j=Z vs->Pm w j.toNat r.b/\∀x∈vs,SX w (U C) 0 x:=fun j vs e=>⟨(V.c j vs e).1.up L,fun x f=>((V.c j vs e).2 x f).up L⟩
  refine⟨w,L,by rw[hw];simp[Vw.cost];omega,zK,.inr ⟨by rw[hw],E⟩,⟨by rw[a.b];exact V.ZM,by rw[a.b];exact L.k _ V.a,by rw[D,a.b];exact V2,by grind [Yw.b,Vw.Le.dn,RV.Xc],(fun e=>by grind),fun _=>?_⟩,hb⟩;have Yi:RU (Vy w) (WS (Yu r).flatten+1).toNat ((U C)*v.B.length)/\RU (Uv w) (WS (Yu r).flatten+1).toNat (gT w+1):=by
   have z:∀P k,RU P 0 k:=fun P k L _ q=>by
    cases L with
    | nil=>simp
    | cons x L=>have:=(q x zX).1;omega
   rcases (Oy (Yu r).flatten (-1)).2.2 with h|⟨x,f,h⟩
   .rw[show WS (Yu r).flatten = -1 from h]
    grind
   .rw[show WS (Yu r).flatten=x.Zx from h];let⟨m,_,vs,u,o⟩:=My f;let⟨s0,s1,i,s2,W,R⟩:=(V.c _ _ u).2 x o
    grind [RU.up,Vw.Le.ch,Nat.mul_le_mul_left,Vw.Le.u,Vw.Le.g]
  refine⟨v.B.length,_,by rw[a.b,hw];simp,Yi.1,Yi.2,?_⟩;unfold Xs;rw[if_neg c];exact Rr.all O A hL _ _ F (Rr.begin N (V.new E).2 A)
theorem Su{s:Nat}{l:Yt}(h:l∈Wc n r s):∃x,∃m:Nat,YF r.ZQ (s:Int)=Z x/\YF n.Zi (s:Int)=aa/\m<5/\l=⟨2,n.me,m,Y2,Qb s r.b x,[]⟩:=by
 unfold Wc at h
 grind [SC]
def RV.Lu(V:RV C v X n.Zi r)(hb:r.a=true)(A:∀t:Nat,Has n.Zi t->Vy v t){s t:Nat}(z:Has r.ZQ s)(u:t<s)(a:¬Uv v t):∃x,Wc n r t=(aW 5).flatMap fun (m:Nat)=>[(⟨2,n.me,m,Y2,Qb t r.b x,[]⟩:Yt)]:=by
 let⟨i,e,_,_,_,R⟩:=V.T7 hb;have f:¬Has n.Zi (t:Int):=fun h=>a (A t h).u;let⟨x,o⟩:=Jr (((R.SF s z).2 t u).resolve_right f);have D:∀m:Nat,YF ((YF r.Xc (t:Int)).getD []) (m:Int)=aa:=fun m=>by
  cases e:YF r.Xc (t:Int) with
  | none=>rfl
  | some K=>
   show YF K (m:Int)=aa
   cases B:YF K (m:Int) with
   | none=>rfl
   | some y=>exact absurd ⟨_,_,V.Xc _ K _ e (by rw[B])⟩ a
 refine⟨x,?_⟩;unfold Wc;rw[o];simp only;rw[if_pos (by unfold Has at f;grind)]
 congr 1
 funext m
 unfold SC
 grind
def RV.asks(V:RV C v X n.Zi r)(hb:r.a=true)(z:∀t:Nat,Has n.Zi t->Vy v t):(∀l∈US n r,LV (U C) v l)/\FJ v (US n r)/\∀Y,Y<5->∀p,FI v p ((US n r).filter (toX Y)):=by
 refine⟨fun l f=>?_,fun a l c e _=>?_,fun Y O p a l c e _ t u=>?_⟩
 .let⟨s,N,f⟩:=a0.1 f;obtain⟨x,m,o,_,_,rfl⟩:=Su f;let⟨i,e,A,B,I,R⟩:=V.T7 hb;have H:=(R.SF s (UG o)).1;refine⟨.inl rfl,(fun h=>by cases h),(fun h=>by cases h),fun _=>⟨by show (0:Int)<=(s:Int);omega,by show (s:Int)<40;omega,i,A,?_,?_⟩,(fun h=>by cases h),fun h=>by cases h⟩
  .exact (R.ig (fun _ h=>h) z B (UG o)).up (fun _ h=>h) (an _) zK
  .exact R.ig (fun _ h=>h.u) z I (UG o)
 .let⟨s,_,f,q,J⟩:=DP _ _ _ _ _ e;obtain⟨x,m,o,_,_,rfl⟩:=Su f;show RU (Uv v) s _;intro L n q;have:=ze (Wc _ r) s L n fun t u=>by
   let⟨A,B⟩:=q t u;let⟨y,E⟩:=V.Lu hb z (UG o) A B;exact⟨A,by rw[E];simp;decide⟩
  grind
 .unfold US at e;rw[List.filter_flatMap]at e;let⟨s,_,f,q,J⟩:=DP _ _ _ _ _ e;let⟨f,F⟩:=a5.1 f;obtain⟨x,m,o,_,_,rfl⟩:=Su f;have u:(t:Int)<(s:Int):=u;by_cases D:Uv v t
  .exact .inl D
  .let⟨y,E⟩:=V.Lu hb z (t:=t) (UG o) uh D;refine .inr (.inl ⟨⟨2,n.me,Y,Y2,Qb t r.b y,[]⟩,?_,rfl,rfl,rfl⟩)
   grind [toX]
end
section
variable {C:List Cm} {b:ZN} {Pb:Int->Cm->Prop} {e:Int} {L X:Nat}
end
section
variable {S:Cm->Prop} {C:List Cm} {b:ZN} {L T:Nat} {w:Nat->Wd} {g:Nat->Gh} {M:Nat->Nat->ZN} {e:Nat} {Q:List Cm}
end
end Go.Proofs.YtkhkmpfenaipaaaGreatDoor

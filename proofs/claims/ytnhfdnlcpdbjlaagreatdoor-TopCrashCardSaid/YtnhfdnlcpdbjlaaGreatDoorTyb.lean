/- Part Tyb. -/
import Derived.Test.YtnhfdnlcpdbjlaaGreatDoorTpc
import Derived.Test.YtnhfdnlcpdbjlaaGreatDoorMop
open Go.Value renaming slice→al,int→an,bool→a7
open Go.IntKind renaming i64→aa
open Go.Obj renaming cells→a6
open Go.Proofs.Tryz renaming prog→ba,underlying23→bR
open List renaming length→U,length_append→Y,mem_append→ak,getElem?_eq_getElem→au,mem_map→aw,mem_singleton→aU,append_assoc→aX,take_of_length_le→a0,getD_eq_getElem?_getD→a1,foldl_cons→a3,take_append_of_le_length→a4,mem_filter→a5,length_map→a8,map_append→a9,mem_range→bc,mem_cons→bd,drop_append_of_le_length→bf,nil_append→bg,append_nil→bh,getElem?_append_right→bj,length_cons→bk,length_drop→bl,length_take→bn,mem_flatten→bo,mem_flatMap→bp,take_append_drop→bw,length_singleton→bx,drop_left→bz,mem_of_mem_take→bA,foldl_append→bG,getElem_mem→bS,filter_cons→b6,range'→b8,range_succ→cd,range→cf,drop_drop→cg,take_take→ck
open Nat renaming le_refl→aI,sub_self→bD,zero_le→b7,min_eq_left→cc
open Int renaming toNat_natCast→aF
open Option renaming map_eq_some_iff→br,map_some→b9,some→Z,none→am
open Classical renaming byContradiction→a2
open Go renaming Value→aK
namespace Go.Proofs.YtnhfdnlcpdbjlaaGreatDoor
open Go Go.V
set_option linter.all false
variable{C:List Cm}{S:Cm->Prop}{a:Qo}{b:Yg}{d:List Nat}{k:Nat}{l:List Raw}{r:XM}
def YR(a:Yg):¬Zw a a:=by unfold Zw;omega
def Xs{a c:Yg}(h1:¬Zw b a)(h2:¬Zw c b):¬Zw c a:=by unfold Zw at *;omega
def Tj{a:Yg}(h:Zw a b):¬Zw b a:=by unfold Zw at *;omega
def UV{a:Yg}(h1:¬Zw a b)(h2:¬Zw b a):a=b:=by
 obtain⟨r,n⟩:=a;obtain⟨s,m⟩:=b;unfold Zw at h1 h2;simp only at h1 h2;rw[Yg.mk.injEq];omega
def ZdG(b:Yg):Nat:=(b.r*5+b.n).toNat
def lX{a:Yg}(ha:ZC a)(hb:ZC b)(h:Zw a b):ZdG a<ZdG b:=by
 unfold ZC at ha hb;unfold Zw at h;unfold ZdG;omega
def UW{α:Type}[DecidableEq α]:∀{l C:List α},l.Nodup->(∀x∈l,x∈C)->(U l)<=(U C):=by
 intro l
 induction l with
 | nil=>intro C _ _;simp
 | cons x l ih=>
  intro C hn h;rw[List.nodup_cons]at hn;have h1:=ih (C:=C.erase x) hn.2 (fun y hy=>(List.mem_erase_of_ne (fun e=>hn.1 (by rw[<-e];exact hy))).2 (h y (by simp[hy])));have h2:x∈C:=h x sW;have h3:=List.length_erase_of_mem h2;have h4:0<(U C):=List.length_pos_of_mem h2;simp only[bk];omega
def tM(Q:List Nat):Prop:=Q.Nodup/\(∀i∈Q,i<5)/\3<=(U Q)
def tM.meet{Q R:List Nat}(q:tM Q)(r:tM R):∃i,i∈Q/\i∈R:=by
 refine a2 fun h=>?_;have hd:(Q++R).Nodup:=by
  rw[List.nodup_append];exact⟨q.1,r.1,fun a ha b hb e=>h ⟨a,ha,by rw[e];exact hb⟩⟩
 have:=UW (C:=cf 5) hd (fun x hx=>by
  rw[bc];rcases ak.1 hx with hx|hx
  .exact q.2.1 x hx
  .exact r.2.1 x hx)
 have h1:=q.2.2;have h2:=r.2.2;simp only[Y,List.length_range]at this;omega
structure Gh where
 V:Nat->Yg->Int->Cm->Prop
 P:Yg->Int->Cm->Prop
def Ix(g:Gh)(M:Nat->Yg)(b:Yg)(s:Int):Prop:=∃Q,tM Q/\(∀i∈Q,¬Zw (M i) b)/\∀i∈Q,∀b' y,Zw b' b->¬g.V i b' s y
def Safe(g:Gh)(M:Nat->Yg)(b:Yg)(s:Int)(x:Cm):Prop:=
 ∃Q,tM Q/\(∀i∈Q,¬Zw (M i) b)/\((∀i∈Q,∀b' y,Zw b' b->¬g.V i b' s y)\/∃b0 j,Zw b0 b/\g.V j b0 s x/\∀i∈Q,∀b' y,Zw b' b->g.V i b' s y->¬Zw b0 b')
def Ix.safe{g:Gh}{M:Nat->Yg}{s:Int}(h:Ix g M b s)(x:Cm):Safe g M b s x:=by
 obtain⟨Q,q,h1,h2⟩:=h;exact⟨Q,q,h1,.inl h2⟩
structure GI(S:Cm->Prop)(g:Gh)(M:Nat->Yg):Prop where
 vp:∀i b s x,g.V i b s x->g.P b s x
 one:∀b s x y,g.P b s x->g.P b s y->x=y
 Z5:∀i b s x,g.V i b s x->¬Zw (M i) b
 may:∀b s x,g.P b s x->ZC b
 safe:∀b s x,g.P b s x->Safe g M b s x
 Zr:∀b s x,g.P b s x->¬Zw (M b.n.toNat) b
 cmd:∀b s x,g.P b s x->x=dQ\/S x
def QX(g:Gh)(s:Int)(x:Cm):Prop:=∃Q b,tM Q/\∀i∈Q,g.V i b s x
def LB{g:Gh}{M:Nat->Yg}(G:GI S g M){Q:List Nat}{s:Int}{x:Cm}(hQ:tM Q)(hv:∀i∈Q,g.V i b s x):∀n b' y,ZdG b'<=n->g.P b' s y->Zw b b'->y=x:=by
 have hb:g.P b s x:=by
  obtain⟨i,h1,_⟩:=hQ.meet hQ;exact G.vp _ _ _ _ (hv i h1)
 intro n
 induction n with
 | zero=>
  intro b' y h1 h2 h3;have:=lX (G.may _ _ _ hb) (G.may _ _ _ h2) h3;omega
 | succ n ih=>
  intro b' y h1 h2 h3;obtain⟨R,hR,_,h5⟩:=G.safe _ _ _ h2;obtain⟨i,i1,i2⟩:=hQ.meet hR;rcases h5 with h5|⟨b0,j,h5,h6,h7⟩
  .exact (h5 i i2 b x h3 (hv i i1)).elim
  .have h8:=h7 i i2 b x h3 (hv i i1);have h9:=G.vp _ _ _ _ h6;by_cases e:Zw b b0
   .have:=lX (G.may _ _ _ h9) (G.may _ _ _ h2) h5;exact ih b0 y mD h9 e
   .have:=UV e h8;subst this;exact G.one _ _ _ _ h9 hb
def QX.one{g:Gh}{M:Nat->Yg}(G:GI S g M){s:Int}{x y:Cm}(hx:QX g s x)(hy:QX g s y):x=y:=by
 obtain⟨Q,b,q,h⟩:=hx;obtain⟨R,c,r,k⟩:=hy;have hb:g.P b s x:=by
  obtain⟨i,h1,_⟩:=q.meet q;exact G.vp _ _ _ _ (h i h1)
 have hc:g.P c s y:=by
  obtain⟨i,h1,_⟩:=r.meet r;exact G.vp _ _ _ _ (k i h1)
 by_cases e:Zw b c
 .exact (LB G q h _ c y (aI _) hc e).symm
 .by_cases f:Zw c b
  .exact LB G r k _ b x (aI _) hb f
  .have:=UV e f;subst this;exact G.one _ _ _ _ hb hc
structure Ext(i:Nat)(g:Gh)(M:Nat->Yg)(g':Gh)(M':Nat->Yg):Prop where
 v:∀j b s x,g.V j b s x->g'.V j b s x
 p:∀b s x,g.P b s x->g'.P b s x
 m:∀j,¬Zw (M' j) (M j)
 fz:∀j b s x,g'.V j b s x->g.V j b s x\/¬Zw b (M j)
 oth:∀j,j≠i->M' j=M j/\∀b s x,g'.V j b s x->g.V j b s x
 Zr:∀b s x,g'.P b s x->g.P b s x\/b.n=i
def Ext.refl(i:Nat)(g:Gh)(M:Nat->Yg):Ext i g M g M:=⟨fun _ _ _ _ h=>h,fun _ _ _ h=>h,fun _=>YR _,fun _ _ _ _ h=>.inl h,fun _ _=>⟨rfl,fun _ _ _ h=>h⟩,fun _ _ _ h=>.inl h⟩
structure PF(g:Gh)(M:Nat->Yg)(i:Nat)(b:Yg)(vs:List Vt):Prop where
 lt:i<5
 Z5:¬Zw (M i) b
 has:∀v∈vs,g.V i v.b v.Zs v.cm/\¬Zw b v.b
 all:∀b' s x,Zw b' b->g.V i b' s x->∃v∈vs,v.Zs=s/\¬Zw v.b b'
section
variable {i:Nat} {g g':Gh} {M M':Nat->Yg}
def Ext.frozen(E:Ext i g M g' M'){j:Nat}{b':Yg}{s:Int}{x:Cm}(h:¬Zw (M j) b)(hb:Zw b' b)(hv:g'.V j b' s x):g.V j b' s x:=by
 rcases E.fz _ _ _ _ hv with q|q
 .exact q
 .exact (Xs h q hb).elim
def PF.ext(E:Ext i g M g' M'){j:Nat}{vs:List Vt}(h:PF g M j b vs):PF g' M' j b vs:=
 ⟨h.lt,Xs h.Z5 (E.m j),fun v hv=>⟨E.v _ _ _ _ (h.has v hv).1,(h.has v hv).2⟩,fun b' s x hb hv=>h.all b' s x hb (E.frozen h.Z5 hb hv)⟩
def QX.ext(E:Ext i g M g' M'){s:Int}{x:Cm}(h:QX g s x):QX g' s x:=by
 obtain⟨Q,b,q,h⟩:=h;exact⟨Q,b,q,fun i hi=>E.v _ _ _ _ (h i hi)⟩
def Ix.ext(E:Ext i g M g' M'){s:Int}(h:Ix g M b s):Ix g' M' b s:=by
 obtain⟨Q,q,h1,h2⟩:=h;exact⟨Q,q,fun i hi=>Xs (h1 i hi) (E.m i),fun i hi b' y hb hv=>h2 i hi b' y hb (E.frozen (h1 i hi) hb hv)⟩
def Safe.ext(E:Ext i g M g' M'){s:Int}{x:Cm}(h:Safe g M b s x):Safe g' M' b s x:=by
 obtain⟨Q,q,h1,h2⟩:=h;refine⟨Q,q,fun i hi=>Xs (h1 i hi) (E.m i),?_⟩;rcases h2 with h2|⟨b0,j,h3,h4,h5⟩
 .exact .inl fun i hi b' y hb hv=>h2 i hi b' y hb (E.frozen (h1 i hi) hb hv)
 .exact .inr ⟨b0,j,h3,E.v _ _ _ _ h4,fun i hi b' y hb hv=>h5 i hi b' y hb (E.frozen (h1 i hi) hb hv)⟩
end
def Nj(M:Nat->Yg)(i:Nat)(b:Yg):Nat->Yg:=fun j=>if j=i then b else M j
def raised{i:Nat}{g:Gh}{M:Nat->Yg}(G:GI S g M)(hb:¬Zw b (M i)):Ext i g M g (Nj M i b)/\GI S g (Nj M i b):=by
 have hm:∀j,¬Zw (Nj M i b j) (M j):=fun j=>by
  unfold Nj;split
  .rename_i e;rw[e];exact hb
  .exact YR _
 have E:Ext i g M g (Nj M i b):=⟨fun _ _ _ _ h=>h,fun _ _ _ h=>h,hm,fun _ _ _ _ h=>.inl h,fun j hj=>⟨by unfold Nj;rw[if_neg hj],fun _ _ _ h=>h⟩,fun _ _ _ h=>.inl h⟩
 exact⟨E,G.vp,G.one,fun j c s x h=>Xs (G.Z5 j c s x h) (hm j),G.may,fun c s x h=>(G.safe c s x h).ext E,fun c s x h=>Xs (G.Zr c s x h) (hm _),G.cmd⟩
def jC(g:Gh)(i:Nat)(b:Yg)(s:Int)(x:Cm):Gh:=⟨fun j c t y=>g.V j c t y\/(j=i/\c=b/\t=s/\y=x),g.P⟩
def Zfb{i:Nat}{g:Gh}{M:Nat->Yg}(G:GI S g M){s:Int}{x:Cm}(hp:g.P b s x)(hb:¬Zw b (M i)):Ext i g M (jC g i b s x) (Nj M i b)/\GI S (jC g i b s x) (Nj M i b):=by
 have hm:∀j,¬Zw (Nj M i b j) (M j):=fun j=>by
  unfold Nj;split
  .rename_i e;rw[e];exact hb
  .exact YR _
 have E:Ext i g M (jC g i b s x) (Nj M i b):=by
  refine⟨fun _ _ _ _ h=>.inl h,fun _ _ _ h=>h,hm,fun j c t y h=>?_,fun j hj=>⟨by unfold Nj;rw[if_neg hj],fun c t y h=>?_⟩,fun _ _ _ h=>.inl h⟩
  .rcases h with h|⟨rfl,rfl,rfl,rfl⟩
   .exact .inl h
   .exact .inr hb
  .rcases h with h|⟨rfl,_⟩
   .exact h
   .exact (hj rfl).elim
 refine⟨E,fun j c t y h=>?_,G.one,fun j c t y h=>?_,G.may,fun c t y h=>(G.safe c t y h).ext E,fun c t y h=>Xs (G.Zr c t y h) (hm _),G.cmd⟩
 .rcases h with h|⟨rfl,rfl,rfl,rfl⟩
  .exact G.vp _ _ _ _ h
  .exact hp
 .rcases h with h|⟨rfl,rfl,rfl,rfl⟩
  .exact Xs (G.Z5 _ _ _ _ h) (hm j)
  .unfold Nj;rw[if_pos rfl];exact YR _
def l9(g:Gh)(b:Yg)(l:List (Int × Cm)):Gh:=⟨g.V,fun c t y=>g.P c t y\/(c=b/\Yl l t=Z y)⟩
def zF{i:Nat}{g:Gh}{M:Nat->Yg}(G:GI S g M){l:List (Int × Cm)}(hn:b.n=i)(hm:ZC b)(ht:¬Zw (M i) b)(h1:∀t y,g.P b t y->Yl l t=Z y)(h2:∀t y,Yl l t=Z y->Safe g M b t y)(h3:∀t y,Yl l t=Z y->y=dQ\/S y):
  Ext i g M (l9 g b l) M/\GI S (l9 g b l) M:=by
 have E:Ext i g M (l9 g b l) M:=by
  refine⟨fun _ _ _ _ h=>h,fun _ _ _ h=>.inl h,fun _=>YR _,fun _ _ _ _ h=>.inl h,fun j hj=>⟨rfl,fun _ _ _ h=>h⟩,fun c t y h=>?_⟩;rcases h with h|⟨rfl,_⟩
  .exact .inl h
  .exact .inr hn
 refine⟨E,fun j c t y h=>.inl (G.vp _ _ _ _ h),fun c t y z hy hz=>?_,G.Z5,fun c t y h=>?_,fun c t y h=>?_,fun c t y h=>?_,fun c t y h=>?_⟩
 .rcases hy with hy|⟨rfl,hy⟩
  .rcases hz with hz|⟨rfl,hz⟩
   .exact G.one _ _ _ _ hy hz
   .have:=h1 _ _ hy;rw[hz]at this;exact (Option.some.inj this).symm
  .rcases hz with hz|⟨_,hz⟩
   .have:=h1 _ _ hz;rw[hy]at this;exact Option.some.inj this
   .rw[hy]at hz;exact Option.some.inj hz
 .rcases h with h|⟨rfl,_⟩
  .exact G.may _ _ _ h
  .exact hm
 .rcases h with h|⟨rfl,h⟩
  .exact (G.safe _ _ _ h).ext E
  .exact (h2 _ _ h).ext E
 .rcases h with h|⟨rfl,h⟩
  .exact G.Zr _ _ _ h
  .rw[hn];exact ht
 .rcases h with h|⟨rfl,h⟩
  .exact G.cmd _ _ _ h
  .exact h3 _ _ h
def Kw{n:Nat}(h:n<4294967296):n/16777216%256*16777216+n/65536%256*65536+n/256%256*256+n%256=n:=mD
def cD(h:YF a.p a.l b=0):Jx a (JF b)=Z ⟨b,a.l⟩:=by
 have hb:=Re h;obtain⟨r,m⟩:=b;unfold ZC at hb;simp only at hb;have e1:XZ (JF ⟨r,m⟩) 1=r.toNat:=by
  have:XZ (JF ⟨r,m⟩) 1=r.toNat/16777216%256*16777216+r.toNat/65536%256*65536+r.toNat/256%256*256+r.toNat%256:=by simp[XZ,JF,ZK,JR]
  rw[this];exact Kw mD
 have e2:XZ (JF ⟨r,m⟩) 5=m.toNat:=by
  have:XZ (JF ⟨r,m⟩) 5=m.toNat/16777216%256*16777216+m.toNat/65536%256*65536+m.toNat/256%256*256+m.toNat%256:=by simp[XZ,JF,ZK,JR]
  rw[this];exact Kw mD
 have e3:(⟨((XZ (JF ⟨r,m⟩) 1:Nat):Int),((XZ (JF ⟨r,m⟩) 5:Nat):Int)⟩:Yg)=⟨r,m⟩:=by
  rw[e1,e2,Yg.mk.injEq];omega
 unfold Jx;rw[if_pos ⟨rfl,rfl⟩,e3,if_pos h]
def zH{v:Vt}(h:Xc a.p a.l v=0):Jx a (Uc v)=Z ⟨v.b,Jh a.l v⟩:=by
 have hv:=Kt h;obtain⟨s,⟨r,m⟩,k,c,q,nm,x⟩:=v;obtain⟨h1,h2,h3⟩:=hv;unfold ZC at h2;simp only at h1 h2 h3;obtain⟨k',c',q',n',x',rfl,rfl,rfl,rfl,rfl,b1,b2,b3,b4,b5⟩:=RH h3;have f:∀(i:Nat) (n:Nat),XZ (Uc ⟨s,⟨r,m⟩,k',c',q',n',x'⟩) i=n/16777216%256*16777216+n/65536%256*65536+n/256%256*256+n%256->n<4294967296->XZ (Uc ⟨s,⟨r,m⟩,k',c',q',n',x'⟩) i=n:=fun i n e hn=>by rw[e];exact Kw hn
 have e1:=f 1 s.toNat (by simp[XZ,Uc,ZK,JR]) (by omega);have e2:=f 5 r.toNat (by simp[XZ,Uc,ZK,JR]) (by omega);have e3:=f 9 m.toNat (by simp[XZ,Uc,ZK,JR]) (by omega);have e4:=f 13 k' (by simp[XZ,Uc,ZK,JR]) (by omega);have e5:=f 17 c' (by simp[XZ,Uc,ZK,JR]) (by omega);have e6:=f 21 q' (by simp[XZ,Uc,ZK,JR]) (by omega);have e7:=f 25 n' (by simp[XZ,Uc,ZK,JR]) (by omega);have e8:=f 29 x' (by simp[XZ,Uc,ZK,JR]) (by omega);have hl:(Uc ⟨s,⟨r,m⟩,k',c',q',n',x'⟩).length=33:=rfl;obtain⟨L,hL⟩:=ZP (Uc ⟨s,⟨r,m⟩,k',c',q',n',x'⟩);have h0:L.getD 0 0=2:=by rw[hL];rfl
 rw[<-hL]at e1 e2 e3 e4 e5 e6 e7 e8 hl ⊢;have d4:Qx (L.drop 13)=0:=by
  unfold Qx;rw[if_pos (by rw[bl];omega),QR,QR,QR,QR,QR,e4,e5,e6,e7,e8];exact h3
 have d5:aV (L.drop 13) ⟨((XZ L 1:Nat):Int),⟨((XZ L 5:Nat):Int),((XZ L 9:Nat):Int)⟩,0,0,0,0,0⟩=⟨s,⟨r,m⟩,k',c',q',n',x'⟩:=by
  unfold aV
  dsimp only
  rw[QR,QR,QR,QR,QR,e1,e2,e3,e4,e5,e6,e7,e8,Vt.mk.injEq,Yg.mk.injEq];refine⟨by omega,⟨by omega,by omega⟩,rfl,rfl,rfl,rfl,rfl⟩
 have d6:(⟨((XZ L 5:Nat):Int),((XZ L 9:Nat):Int)⟩:Yg)=⟨r,m⟩:=by rw[e2,e3,Yg.mk.injEq];omega
 unfold Jx;rw[if_neg (by omega),if_pos ⟨hl,h0⟩,if_neg (by rw[d4];decide),d5,d6,if_pos h]
def DI{a':Qo}{k':Nat}(h:Y6 d a k=Z (a',k')):k<k'/\k'<=(U d):=by
 unfold Y6 at h;split at h
 .rename_i q;rw[br]at h;obtain⟨x,_,e⟩:=h;simp only[Prod.mk.injEq]at e;omega
 .cases h
def cE{e:List Nat}(h:k<(U d)):(d++e).getD k 0=d.getD k 0:=by
 rw[a1,a1,List.getElem?_append_left h]
def Hm{e:List Nat}{n:Nat}(h:k+n<=(U d)):((d++e).drop k).take n=(d.drop k).take n:=by
 rw[bf (by omega),a4 (by rw[bl];omega)]
def zI{a':Qo}{k':Nat}(h:Y6 d a k=Z (a',k'))(e:List Nat):Y6 (d++e) a k=Z (a',k'):=by
 unfold Y6 at h ⊢;split at h
 .rename_i q;have q1:WP (d++e) k=WP d k:=by unfold WP;rw[cE q.1]
  have h1:1<=WP d k:=by unfold WP;omega
  have q2:(TC (((d++e).drop k).take (WP d k))).take 4=((d++e).drop (k+WP d k)).take 4:=by
   rw[Hm (by omega),Hm (by omega)];exact q.2.2
  rw[q1,if_pos ⟨by rw[Y];omega,by rw[Y];omega,q2⟩,Hm (by omega),h]
 .cases h
def zK{a':Qo}{k':Nat}(h:Y6 d a k=Z (a',k')){j:Nat}(hj:k'<=j):Y6 (d.take j) a k=Z (a',k'):=by
 unfold Y6 at h ⊢;split at h
 .rename_i q;rw[br]at h;obtain⟨x,hx,e⟩:=h;simp only[Prod.mk.injEq]at e;obtain⟨e1,e2⟩:=e;have q0:d=d.take j++d.drop j:=(bw j d).symm;have ql:(d.take j).length=min j (U d):=bn;have q1:WP d k=WP (d.take j) k:=by
   unfold WP
   conv=>lhs;rw[q0]
   rw[cE mD]
  have hN:1<=WP d k:=by unfold WP;omega
  have m1:∀a n,a+n<=j->a+n<=(U d)->(d.drop a).take n=((d.take j).drop a).take n:=fun a n h1 h2=>by
   conv=>lhs;rw[q0]
   exact Hm mD
  have q2:(TC (((d.take j).drop k).take (WP d k))).take 4=((d.take j).drop (k+WP d k)).take 4:=by
   rw[<-m1 _ _ mD mD,<-m1 _ _ mD mD];exact q.2.2
  rw[<-q1,if_pos ⟨mD,mD,q2⟩,<-m1 _ _ mD mD,hx,<-e1,<-e2,b9]
 .cases h
def Rec.fits{l:List Nat}{r:Qo}{j:Nat}(h:Rec l a k r j):k<=(U l)->k<=j/\j<=(U l):=by
 induction h with
 | stop e=>intro h;omega
 | go e _ ih=>
  intro h;have h1:=DI e;have h2:=ih h1.2;omega
def Rec.app{l e:List Nat}{r r':Qo}{j j':Nat}(h:Rec l a k r j)(h2:Rec (l++e) r j r' j'):Rec (l++e) a k r' j':=by
 induction h with
 | stop _=>exact h2
 | go s _ ih=>exact .go (zI s e) (ih h2)
def step_end(l:List Nat)(a:Qo):Y6 l a (U l)=am:=by
 unfold Y6;rw[if_neg mD]
def Rec.cut{l:List Nat}{r:Qo}{j:Nat}(h:Rec l a k r j):k<=(U l)->Rec (l.take j) a k r j:=by
 induction h with
 | stop e=>
  intro h;rename_i k;have:=step_end (l.take k) ‹Qo›;rw[bn,cc h]at this;exact .stop this
 | go s h2 ih=>
  intro h;have h1:=DI s;have h3:=h2.fits h1.2;exact .go (zK s h3.1) (ih h1.2)
def Whole(d:List Nat)(a:Qo):Prop:=Rec d JG 0 a (U d)
def Whole.nil:Whole [] JG:=.stop (step_end [] JG)
def Whole.all(h:Whole d a):Tb d=(a,(U d)):=OV h
def zL(d:List Nat){a':Qo}{f:List Nat}(hb:Jx a f=Z a'):Y6 (d++YS f) a (U d)=Z (a',(d++YS f).length):=by
 have hl:=WN f;have e0:YS f=(U f) :: (f++(TC (Lk f)).take 4):=rfl;have hN:WP (d++YS f) (U d)=1+(U f):=by
  unfold WP;rw[a1,bj (aI _),bD,e0];rfl
 have m1:((d++YS f).drop (U d)).take (1+(U f))=Lk f:=by
  rw[bz];unfold YS;rw[a4 (by rw[UD];omega),a0 (by rw[UD];omega)]
 have m2:((d++YS f).drop ((U d)+(1+(U f)))).take 4=(TC (Lk f)).take 4:=by
  rw[<-cg,bz];unfold YS;rw[bf (by rw[UD];omega),List.drop_of_length_le (by rw[UD];omega),bg,ck];rfl
 have m3:((d++YS f).drop ((U d)+1)).take (1+(U f)-1)=f:=by
  rw[<-cg,bz,e0,List.drop_succ_cons,List.drop_zero,Nat.add_sub_cancel_left,a4 (aI _),a0 (aI _)]
 unfold Y6;rw[hN,if_pos ⟨by rw[Y];omega,by rw[Y];omega,by rw[m1,m2]⟩,m3,hb];simp only[b9,Y,hl]
 congr 2
 omega
def qP(d f:List Nat)(a:Qo){m:Nat}(hm:m<(YS f).length):Y6 (d++(YS f).take m) a (U d)=am:=by
 have hl:=WN f;have e0:YS f=(U f) :: (f++(TC (Lk f)).take 4):=rfl;have ht:((YS f).take m).length=m:=aaa;unfold Y6;rw[if_neg];rintro⟨h1,h2,_⟩;rw[Y,ht]at h1 h2;have hN:WP (d++(YS f).take m) (U d)=1+(U f):=by
  unfold WP;rw[a1,bj (aI _),bD,List.getElem?_take_of_lt mD,e0];rfl
 omega
def Whole.add{f:List Nat}{a':Qo}(h:Whole d a)(hb:Jx a f=Z a'):Whole (d++YS f) a':=
 Rec.app h (.go (zL d hb) (.stop (step_end _ _)))
def Whole.ZvH{f:List Nat}(h:Whole d a){m:Nat}(hm:m<(YS f).length):Rec (d++(YS f).take m) JG 0 a (U d):=
 Rec.app h (.stop (qP d f a hm))
def XW:Ny->Qo
 | .Q8 a _ _ _=>a
 | .Wo a _ _=>a
 | .Zr a _ _=>a
structure TR(n:Nd):Prop where
 idle:n.up=true->n.Zp=am->Whole n.data n.Zr/\n.Y5=(U n.data)
 busy:n.up=true->∀p,n.Zp=Z p->∃d f,n.data=d++YS f/\n.Y5=(U d)/\Whole d n.Zr/\Jx n.Zr f=Z (XW p)
 down:n.up=false->n.Zp=am/\n.Y5=(U n.data)/\∃a j,Rec n.data JG 0 a j
 len:(U n.data)<=100000
def YD(n:Nd):Qo:=if n.up=true then n.Zr else (Tb n.data).1
def zM(i:Nat):TR (Yk i true [] 0 JG):=by
 refine⟨fun _ _=>⟨Whole.nil,rfl⟩,fun _ p hp=>(by cases hp),fun h=>(by cases h),by simp[Yk]⟩
def Fk{i:Nat}{n:Nd}(h:TR n)(hu:n.up=true){keep:Int}(hk:0<=keep):
  TR (Yo i n keep)/\(Yo i n keep).up=false/\(YD (Yo i n keep)=n.Zr\/∃p,n.Zp=Z p/\YD (Yo i n keep)=XW p):=by
 have key:∀(d:List Nat) (z:Int) (a:Qo) (j:Nat),(U d)<=100000->z=(U d)->Rec d JG 0 a j->TR (Yk i false d z JG)/\(Yk i false d z JG).up=false/\YD (Yk i false d z JG)=a:=fun d z a j h1 h2 h3=>by
  refine⟨⟨fun e=>(by cases e),fun e=>(by cases e),fun _=>⟨rfl,h2,a,j,h3⟩,h1⟩,rfl,?_⟩;unfold YD;rw[if_neg (by simp[Yk])];show (Tb d).1=a;rw[OV h3]
 cases hp:n.Zp with
 | none=>
  obtain⟨h1,h2⟩:=h.idle hu hp;have hl:=h.len;have ec:(Ur n.data n.Y5 keep).toNat=(U n.data):=by unfold Ur;rw[h2];split<;>omega
  have ez:Ur n.data n.Y5 keep=(U n.data):=by unfold Ur;rw[h2];split<;>omega
  have e:Yo i n keep=Yk i false n.data (Ur n.data n.Y5 keep) JG:=by
   unfold Yo;rw[if_pos hu,if_pos ⟨⟨hl,mD,mD⟩,hk⟩,ec,a0 (aI _)]
  rw[e];obtain⟨k1,k2,k3⟩:=key n.data _ n.Zr _ hl ez h1;exact⟨k1,k2,.inl k3⟩
 | some p=>
  obtain⟨d,f,h1,h2,h3,h4⟩:=h.busy hu p hp;have hl:=h.len;have td:(U n.data)=(U d)+(YS f).length:=by rw[h1,Y]
  have c1:((U d):Int)<=Ur n.data n.Y5 keep/\Ur n.data n.Y5 keep<=(U n.data):=by unfold Ur;rw[h2];split<;>omega
  obtain⟨C,hC⟩:∃C:Nat,Ur n.data n.Y5 keep=C:=⟨(Ur n.data n.Y5 keep).toNat,mD⟩
  have e:Yo i n keep=Yk i false (n.data.take C) C JG:=by
   unfold Yo;rw[if_pos hu,if_pos ⟨⟨hl,mD,mD⟩,hk⟩,hC];rfl
  have htl:(n.data.take C).length=C:=aaa;rw[e];by_cases hw:C=(U n.data)
  .have et:n.data.take C=n.data:=a0 mD;rw[et];have:=h3.add h4;rw[<-h1]at this;obtain⟨k1,k2,k3⟩:=key n.data C (XW p) _ hl mD this;exact⟨k1,k2,.inr ⟨p,rfl,k3⟩⟩
  .have et:n.data.take C=d++(YS f).take (C-(U d)):=by
    rw[h1,List.take_append,a0 mD]
   have:=h3.ZvH (f:=f) (m:=C-(U d)) mD;rw[<-et]at this;obtain⟨k1,k2,k3⟩:=key (n.data.take C) C n.Zr _ mD mD this;exact⟨k1,k2,.inl k3⟩
def Fl{i:Nat}{n:Nd}(h:TR n)(hu:n.up=false):
  TR (started i n)/\(started i n).up=true/\(started i n).Zr=YD n:=by
 obtain⟨h1,h2,a,j,h3⟩:=h.down hu;have hl:=h.len;have hj:=h3.fits (b7 _);have ea:=OV h3;have ZvI:=h3.cut (b7 _);have Vb:(n.data.take j).length=j:=aaa;have ok:YT n.data n.Y5:=⟨hl,mD,mD⟩
 have eD:Ln n.data n.Y5=n.data.take j:=by unfold Ln;rw[if_pos ok,ea]
 have eN:iR n.data n.Y5=j:=by
  unfold iR;rw[if_pos ok,ea];simp only;split<;>omega
 have ok2:YT (n.data.take j) (j:Int):=⟨mD,mD,mD⟩
 have hw:Whole (n.data.take j) a:=by unfold Whole;rw[Vb];exact ZvI
 have eo:(if YT (Ln n.data n.Y5) (iR n.data n.Y5) then (Tb (Ln n.data n.Y5)).1 else JG)=a:=by
  rw[eD,eN,if_pos ok2,hw.all]
 have e:started i n=Yk i true (n.data.take j) j a:=by
  unfold started;rw[if_neg (by rw[hu];decide),eo,eD,eN]
 rw[e];refine⟨⟨fun _ _=>⟨hw,by show (j:Int)=((n.data.take j).length:Nat);omega⟩,fun _ p hp=>(by cases hp),fun h=>(by cases h),by show (n.data.take j).length<=100000;omega⟩,rfl,?_⟩;show a=YD n;unfold YD;rw[if_neg (by rw[hu];decide),ea]
def ZdH{β:Type}:∀{l:List (Int × β)} {k:Int},k∈l.map (·.1)->∃v,Yl l k=Z v:=by
 intro l k h
 cases e:Yl l k with
 | some v=>exact⟨v,rfl⟩
 | none=>
  obtain⟨x,hx,rfl⟩:=aw.1 h;exact (vK e x hx rfl).elim
def ma{β:Type}{l:List (Int × β)}{k:Int}{v:β}(h:Yl l k=Z v):k∈l.map (·.1):=aw.2 ⟨(k,v),TW h,rfl⟩
def Th.maj{β:Type}{l:List (Int × β)}(h:Th 5 l)(hm:5<2*(U l)):tM (l.map fun x=>x.1.toNat):=by
 refine⟨?_,fun i hi=>?_,by rw[a8];omega⟩
 .have:(l.map fun x=>x.1.toNat)=(l.map (·.1)).map Int.toNat:=by rw[List.map_map];rfl
  rw[this];refine List.pairwise_map.2 ?_;have h2:=h.2;have h1:=h.1;rw[List.nodup_iff_pairwise_ne]at h1;refine List.Pairwise.imp_of_mem ?_ h1;intro a b ha hb Xb he;have:=h2 a ha;have:=h2 b hb;omega
 .obtain⟨x,hx,rfl⟩:=aw.1 hi;have:=h.2 x.1 (aw.2 ⟨x,hx,rfl⟩);omega
def Th.back{β:Type}{l:List (Int × β)}(h:Th 5 l){i:Nat}(hi:i∈l.map fun x=>x.1.toNat):∃v,Yl l (i:Int)=Z v:=by
 obtain⟨x,hx,rfl⟩:=aw.1 hi;have:=h.2 x.1 (aw.2 ⟨x,hx,rfl⟩);have e:((x.1.toNat:Nat):Int)=x.1:=mD;rw[e];exact ZdH (aw.2 ⟨x,hx,rfl⟩)
structure AR(g:Gh)(i:Nat)(a:Qo):Prop where
 has:∀v∈a.l,g.V i v.b v.Zs v.cm
 all:∀b s x,g.V i b s x->∃v∈a.l,v.Zs=s/\¬Zw v.b b
def AR.pf{g:Gh}{M:Nat->Yg}{i:Nat}(G:GI S g M)(h:AR g i a)(hi:i<5)(hm:M i=a.p):PF g M i a.p a.l:=
 ⟨hi,by rw[hm];exact YR _,fun v hv=>⟨h.has v hv,by rw[<-hm];exact G.Z5 _ _ _ _ (h.has v hv)⟩,fun b' s x _ hv=>h.all b' s x hv⟩
structure RR(g:Gh)(M:Nat->Yg)(i:Nat)(n:Nd)(r:XM):Prop where
 ZX:r.b.n=i
 may:ZC r.b
 ZL:∀j vs,Yl r.ZL j=Z vs->PF g M j.toNat r.b vs
 pn:r.Xf=false->∀s x,¬g.P r.b s x
 pr:∀s x,g.P r.b s x->Yl r.Yj s=Z x
 safe:∀s x,Yl r.Yj s=Z x->g.P r.b s x
 free:r.Xf=true->∀s:Int,(n.ZI.length:Int)<=s->Yl r.Yj s=am->Yl n.Zi s=am->Ix g M r.b s
 YY:∀s K j,Yl r.YY s=Z K->Yl K j=Z ()->∃x,g.V j.toNat r.b s x
def PR(g:Gh)(n:Nd):Ny->Prop
 | .Q8 a to b vs=>a=⟨b,n.Zr.l⟩/\vs=n.Zr.l/\YF n.Zr.p n.Zr.l b=0
 | .Wo a to v=>a=⟨v.b,Jh n.Zr.l v⟩/\Xc n.Zr.p n.Zr.l v=0/\g.P v.b v.Zs v.cm
 | .Zr a vs cur=>∃b,a=⟨b,n.Zr.l⟩/\vs=n.Zr.l/\YF n.Zr.p n.Zr.l b=0/\(cur=true->∃r,n.Zh=Z r/\r.b=b)
structure LR(S:Cm->Prop)(g:Gh)(M:Nat->Yg)(l:Yn):Prop where
 Q8:l.ZH=1->PF g M l.JA.toNat l.b l.vs
 ask:l.ZH=2->g.P l.v.b l.v.Zs l.v.cm
 Wo:l.ZH=3->g.V l.JA.toNat l.v.b l.v.Zs l.v.cm
 fwd:l.ZH=4->S l.v.cm
 cho:l.ZH=6->QX g l.v.Zs l.v.cm
def LR.plain{g:Gh}{M:Nat->Yg}{l:Yn}(h:l.ZH=0\/l.ZH=5\/l.ZH=7):LR S g M l:=
 ⟨fun e=>by omega,fun e=>by omega,fun e=>by omega,fun e=>by omega,fun e=>by omega⟩
structure NR(S:Cm->Prop)(g:Gh)(M:Nat->Yg)(i:Nat)(n:Nd):Prop where
 acc:AR g i (YD n)
 m:M i=(YD n).p
 tape:TR n
 Zp:∀p,n.Zp=Z p->PR g n p
 Zi:∀s x,Yl n.Zi s=Z x->QX g s x
 ZI:∀(k:Nat) x,n.ZI[k]? = Z x->QX g (k:Int) x
 cF:∀x∈n.ZB,S x
 Zh:∀r,n.Zh=Z r->RR g M i n r
def Yf{n:Nd}(h:n.up=true):YD n=n.Zr:=by unfold YD;rw[if_pos h]
section
variable {i j:Nat} {g g':Gh} {M M':Nat->Yg} {S:Cm->Prop}
def LR.ext(E:Ext i g M g' M'){l:Yn}(h:LR S g M l):LR S g' M' l:=
 ⟨fun e=>(h.Q8 e).ext E,fun e=>E.p _ _ _ (h.ask e),fun e=>E.v _ _ _ _ (h.Wo e),h.fwd,fun e=>(h.cho e).ext E⟩
def NR.ext(E:Ext i g M g' M'){n:Nd}(hj:j≠i)(h:NR S g M j n):NR S g' M' j n:=by
 have ho:=E.oth j hj;refine⟨⟨fun v hv=>E.v _ _ _ _ (h.acc.has v hv),fun b s x hv=>h.acc.all b s x (ho.2 _ _ _ hv)⟩,by rw[ho.1];exact h.m,h.tape,fun p hp=>?_,fun s x e=>(h.Zi s x e).ext E,fun k x e=>(h.ZI k x e).ext E,h.cF,fun r hr=>?_⟩
 .have:=h.Zp p hp
  cases p with
  | Q8 a to b vs=>exact this
  | Wo a to v=>exact⟨this.1,this.2.1,E.p _ _ _ this.2.2⟩
  | Zr a vs cur=>exact this
 .have R:=h.Zh r hr;have hP:∀s x,g'.P r.b s x->g.P r.b s x:=fun s x e=>by
   rcases E.Zr _ _ _ e with e|e
   .exact e
   .rw[R.ZX]at e;omega
  exact⟨R.ZX,R.may,fun k vs e=>(R.ZL k vs e).ext E,fun e s x q=>R.pn e s x (hP s x q),fun s x q=>R.pr s x (hP s x q),fun s x q=>E.p _ _ _ (R.safe s x q),fun e s h1 h2 h3=>(R.free e s h1 h2 h3).ext E,fun s K k h1 h2=>by
   obtain⟨x,hx⟩:=R.YY s K k h1 h2;exact⟨x,E.v _ _ _ _ hx⟩⟩
end
structure HR(S:Cm->Prop)(g:Gh)(M:Nat->Yg)(i:Nat)(o:Out):Prop where
 n:NR S g M i o.n
 up:o.n.up=true
 ls:∀l∈o.ls,LR S g M l
section
variable {S:Cm->Prop} {g:Gh} {M:Nat->Yg} {i:Nat} {n:Nd}
def HR.same(N:NR S g M i n)(hu:n.up=true):HR S g M i ⟨n,[],[]⟩:=⟨N,hu,fun l hl=>by cases hl⟩
def HR.one(N:NR S g M i n)(hu:n.up=true){l:Yn}(hl:LR S g M l):HR S g M i ⟨n,[l],[]⟩:=⟨N,hu,fun x hx=>by
 have:x=l:=by simpa using hx
 rw[this];exact hl⟩
def UX{p:Yg}{l:List Vt}(h:YF p l b=0):¬Zw b p:=by
 unfold YF at h;split at h
 .omega
 .split at h
  .omega
  .split at h
   .omega
   .assumption
def UY{p:Yg}{l:List Vt}{v:Vt}(h:Xc p l v=0):¬Zw v.b p:=by
 unfold Xc at h;split at h
 .omega
 .split at h
  .omega
  .split at h
   .omega
   .assumption
def NR.wait(N:NR S g M i n)(hu:n.up=true)(hp:n.Zp=am){p:Ny}{f:List Nat}(hb:Jx n.Zr f=Z (XW p))(hl:(n.data++YS f).length<=100000)(hr:PR g n p):NR S g M i { n with data:=n.data++YS f,Zp:=Z p }:=by
 obtain⟨h1,h2⟩:=N.tape.idle hu hp;have eA:YD { n with data:=n.data++YS f,Zp:=Z p } = YD n:=by rw[Yf hu,Yf (n:={ n with data:=n.data++YS f,Zp:=Z p }) hu]
 refine⟨by rw[eA];exact N.acc,by rw[eA];exact N.m,⟨fun _ e=>(by cases e),fun _ q hq=>?_,fun e=>?_,hl⟩,fun q hq=>?_,N.Zi,N.ZI,N.cF,fun r hr=>?_⟩
 .cases hq
  exact⟨n.data,f,rfl,h2,h1,hb⟩
 .rw[show ({ n with data:=n.data++YS f,Zp:=Z p }:Nd).up=n.up from rfl,hu]at e
  cases e
 .cases hq
  cases p<;>exact hr
 .have R:=N.Zh r hr;exact⟨R.ZX,R.may,R.ZL,R.pn,R.pr,R.safe,R.free,R.YY⟩
def jD(hi:i<5)(G:GI S g M)(N:NR S g M i n)(hu:n.up=true)(hp:n.Zp=am)(Hj:n.me=i){l:Yn}:HR S g M i (Y3 n l):=by
 have eA:=Yf hu;have Ub:=N.acc;have hM:=N.m;rw[eA]at Ub hM;unfold Y3;split
 .exact .one N hu (.plain (.inr (.inr rfl)))
 .rename_i c1;split
  .rename_i c2;refine .one N hu ⟨fun _=>?_,fun e=>(by cases e),fun e=>(by cases e),fun e=>(by cases e),fun e=>(by cases e)⟩;have:=Ub.pf G hi hM;rw[c2]at this;show PF g M (((n.me:Nat):Int)).toNat l.b n.Zr.l;rw[aF,Hj];exact this
  .split
   .exact .same N hu
   .rename_i c3;have e1:YF n.Zr.p n.Zr.l l.b=0:=by simpa using c1
    have e3:Jn n.data n.Y5 l.b=0:=by simpa using c3
    refine⟨N.wait hu hp (f:=JF l.b) (cD e1) ?_ ⟨rfl,rfl,e1⟩,hu,fun l hl=>by cases hl⟩;rw[Y,RP];exact Lx e3
def ZdI(hi:i<5)(G:GI S g M)(N:NR S g M i n)(hu:n.up=true)(hp:n.Zp=am)(Hj:n.me=i){l:Yn}(L:g.P l.v.b l.v.Zs l.v.cm):HR S g M i (asked n l):=by
 have eA:=Yf hu;have Ub:=N.acc;rw[eA]at Ub;unfold asked;split
 .exact .one N hu (.plain (.inr (.inr rfl)))
 .rename_i c1;split
  .rename_i c2;refine .one N hu ⟨fun e=>(by cases e),fun e=>(by cases e),fun _=>?_,fun e=>(by cases e),fun e=>(by cases e)⟩;show g.V (((n.me:Nat):Int)).toNat l.v.b l.v.Zs l.v.cm;rw[aF,Hj];exact Ub.has _ c2
  .split
   .exact .same N hu
   .rename_i c3;have e1:Xc n.Zr.p n.Zr.l l.v=0:=by simpa using c1
    have e3:Qn n.data n.Y5 l.v=0:=by simpa using c3
    refine⟨N.wait hu hp (f:=Uc l.v) (zH e1) ?_ ⟨rfl,e1,L⟩,hu,fun l hl=>by cases hl⟩;rw[Y,Ba];exact bV e3
def NR.more(N:NR S g M i n)(hp:n.Zp=am){m:Nd}(h1:m.up=n.up)(h2:m.data=n.data)(h3:m.Y5=n.Y5)(h4:m.Zr=n.Zr)(h5:m.Zh=n.Zh)(h6:m.Zp=n.Zp)(k1:∀s x,Yl m.Zi s=Z x->QX g s x)(k2:∀s,Yl m.Zi s=am->Yl n.Zi s=am)(k3:∀(k:Nat) x,m.ZI[k]? = Z x->QX g (k:Int) x)(k4:n.ZI.length<=m.ZI.length)(k5:∀x∈m.ZB,S x):NR S g M i m:=by
 have eA:YD m=YD n:=by unfold YD;rw[h1,h2,h4]
 have T:=N.tape;refine⟨by rw[eA];exact N.acc,by rw[eA];exact N.m,⟨fun e1 e2=>?_,fun _ p e=>?_,fun e=>?_,by rw[h2];exact T.len⟩,fun p e=>?_,k1,k3,k5,fun r e=>?_⟩
 .rw[h2,h3,h4];exact T.idle (by rw[<-h1];exact e1) hp
 .rw[h6,hp]at e;cases e
 .rw[h2,h3,h6];exact T.down (by rw[<-h1];exact e)
 .rw[h6,hp]at e;cases e
 .have R:=N.Zh r (by rw[<-h5];exact e);exact⟨R.ZX,R.may,R.ZL,R.pn,R.pr,R.safe,fun q s q1 q2 q3=>R.free q s mD q2 (k2 s q3),R.YY⟩
def zN(N:NR S g M i n)(hp:n.Zp=am){x:Cm}(hx:Yl n.Zi (n.ZI.length:Int)=Z x):NR S g M i (QS n x):=by
 refine N.more hp rfl rfl rfl rfl rfl rfl N.Zi (fun s h=>h) (fun k y e=>?_) (by show n.ZI.length<=(n.ZI++[x]).length;simp) (fun y hy=>N.cF y (a5.1 hy).1);have e:(n.ZI++[x])[k]? = Z y:=e;rw[List.getElem?_append]at e;split at e
 .exact N.ZI k y e
 .rename_i q;have:k=n.ZI.length:=by
   refine a2 fun Xb=>?_;rw[List.getElem?_eq_none vI]at e
   cases e
  subst this;rw[bD]at e
  cases e
  exact N.Zi _ _ hx
def qQ:∀(k:Nat) (n:Nd),NR S g M i n->n.Zp=am->n.up=true->NR S g M i (Yr k n).1/\(Yr k n).1.Zp=am/\(Yr k n).1.up=true:=by
 intro k
 induction k with
 | zero=>intro n N hp hu;exact⟨N,hp,hu⟩
 | succ k ih=>
  intro n N hp hu;unfold Yr;split
  .exact⟨N,hp,hu⟩
  .rename_i x hx;exact ih _ (zN N hp hx) hp hu
def md(N:NR S g M i n)(hp:n.Zp=am)(hu:n.up=true){s:Int}{x:Cm}(hc:QX g s x):HR S g M i (X9 n s x):=by
 have N1:NR S g M i (XV n s x):=by
  refine N.more hp rfl rfl rfl rfl rfl rfl (fun t y e=>?_) (fun t e=>?_) N.ZI (aI _) N.cF
  .have e:Yl (ins n.Zi s x) t=Z y:=e;rw[Xl]at e;split at e
   .rename_i q;cases e;rw[<-q];exact hc
   .exact N.Zi t y e
  .have e:Yl (ins n.Zi s x) t=am:=e;rw[Xl]at e;split at e
   .cases e
   .exact e
 obtain⟨h1,_,h3⟩:=qQ ((XV n s x).Zi.length+1) _ N1 hp hu;exact⟨h1,h3,fun l hl=>by cases hl⟩
def NR.Zmr(N:NR S g M i n)(hp:n.Zp=am)(R:RR g M i n r):NR S g M i { n with Zh:=Z r }:=
 ⟨N.acc,N.m,⟨N.tape.idle,N.tape.busy,N.tape.down,N.tape.len⟩,fun p e=>(by rw[show ({ n with Zh:=Z r }:Nd).Zp=n.Zp from rfl,hp]at e;cases e),N.Zi,N.ZI,N.cF,fun r' e=>by
  obtain rfl:=Option.some.inj e;exact⟨R.ZX,R.may,R.ZL,R.pn,R.pr,R.safe,R.free,R.YY⟩⟩
def jE(G:GI S g M)(N:NR S g M i n)(hp:n.Zp=am)(hu:n.up=true)(NI:Qq C i n){l:Yn}(LI:Qb C l)(L:LR S g M l)(hk:l.ZH=1\/l.ZH=3):HR S g M i (Yx n l):=by
 unfold Yx;split
 .exact .same N hu
 .rename_i r hr;have R:=N.Zh r hr;have RI:=NI.Zh r hr;split
  .rename_i k1;split
   .rename_i k2;refine .same ?_ hu;refine N.Zmr hp ⟨R.ZX,R.may,fun j vs e=>?_,R.pn,R.pr,R.safe,R.free,R.YY⟩;have e:Yl (ins r.ZL l.JA l.vs) j=Z vs:=e;rw[Xl]at e;split at e
    .rename_i q;cases e;rw[<-q];have:=L.Q8 k1;rw[k2]at this;exact this
    .exact R.ZL j vs e
   .exact .same N hu
  .rename_i k1;have k3:l.ZH=3:=mD;split
   .exact .same N hu
   .rename_i k2;have eb:l.v.b=r.b:=a2 fun q=>k2 q;have hv:=L.Wo k3;rw[eb]at hv;have PQ:∀j,Yl (Qp r l) j=Z ()->∃x,g.V j.toNat r.b l.v.Zs x:=fun j e=>by
     unfold Qp at e;rw[Xl]at e;split at e
     .rename_i q;rw[<-q];exact⟨_,hv⟩
     .cases q:Yl r.YY l.v.Zs with
      | none=>rw[q]at e;cases e
      | some K=>rw[q]at e;exact R.YY _ K j q e
    have N1:NR S g M i (Ta n r l):=by
     refine N.Zmr hp ⟨R.ZX,R.may,R.ZL,R.pn,R.pr,R.safe,R.free,fun s K j e1 e2=>?_⟩;have e1:Yl (ins r.YY l.v.Zs (Qp r l)) s=Z K:=e1;rw[Xl]at e1;split at e1
     .rename_i q;cases e1;rw[<-q];exact PQ j e2
     .exact R.YY s K j e1 e2
    split
    .rename_i k4;refine md N1 hp hu ?_;have KI:Th 5 (Qp r l):=by
      unfold Qp;refine Th.ins ?_ LI.JA ()
      cases q:Yl r.YY l.v.Zs with
      | none=>exact Th.nil 5
      | some K=>exact RI.Su _ (TW q)
     refine⟨_,r.b,KI.maj k4,fun j hj=>?_⟩;obtain⟨u,hu⟩:=KI.back hj;obtain⟨x,hx⟩:=PQ j hu;rw[aF]at hx;have:=G.one _ _ _ _ (G.vp _ _ _ _ hx) (G.vp _ _ _ _ hv);rw[<-this];exact hx
    .exact .same N1 hu
def mf(N:NR S g M i n)(hp:n.Zp=am)(l:Yn):NR S g M i (Xo n l)/\(Xo n l).up=n.up:=by
 unfold Xo;split
 .exact⟨N.more hp rfl rfl rfl rfl rfl rfl N.Zi (fun s h=>h) N.ZI (aI _) N.cF,rfl⟩
 .exact⟨N,rfl⟩
def Zfc(N:NR S g M i n){x:Cm}(hx:S x):NR S g M i (add n x)/\(add n x).up=n.up/\(add n x).Zp=n.Zp:=by
 unfold add;split
 .exact⟨N,rfl,rfl⟩
 .refine⟨⟨N.acc,N.m,⟨N.tape.idle,N.tape.busy,N.tape.down,N.tape.len⟩,fun p e=>?_,N.Zi,N.ZI,fun y hy=>?_,fun r e=>?_⟩,rfl,rfl⟩
  .have:=N.Zp p e
   cases p<;>exact this
  .rcases ak.1 hy with hy|hy
   .exact N.cF y hy
   .have:y=x:=by simpa using hy
    rw[this];exact hx
  .have R:=N.Zh r e;exact⟨R.ZX,R.may,R.ZL,R.pn,R.pr,R.safe,R.free,R.YY⟩
def cG(hi:i<5)(G:GI S g M)(N:NR S g M i n)(hu:n.up=true)(hp:n.Zp=am)(NI:Qq C i n){l:Yn}(LI:Qb C l)(L:LR S g M l):HR S g M i (Zx n l):=by
 have Hj:=NI.me;unfold Zx;split
 .exact jD hi G N hu hp Hj
 split
 .rename_i k;exact jE G N hp hu NI LI L k
 split
 .rename_i k;exact ZdI hi G N hu hp Hj (L.ask k)
 split
 .rename_i k;obtain⟨h1,h2,_⟩:=Zfc N (L.fwd k);exact .same h1 (by rw[h2];exact hu)
 split
 .unfold JY;obtain⟨h1,h2⟩:=mf N hp l;split
  .rename_i x hx;refine .one h1 (by rw[h2];exact hu) ⟨fun e=>(by cases e),fun e=>(by cases e),fun e=>(by cases e),fun e=>(by cases e),fun _=>?_⟩;exact N.Zi _ _ hx
  .exact .same h1 (by rw[h2];exact hu)
 split
 .rename_i k;exact md N hp hu (L.cho k)
 .obtain⟨h1,h2⟩:=mf N hp l;exact .same h1 (by rw[h2];exact hu)
def NR.box(N:NR S g M i n)(k:List Yn):NR S g M i { n with Zf:=k }:=
 ⟨N.acc,N.m,⟨N.tape.idle,N.tape.busy,N.tape.down,N.tape.len⟩,fun p e=>(by have:=N.Zp p e;cases p<;>exact this),N.Zi,N.ZI,N.cF,fun r e=>by
  have R:=N.Zh r e;exact⟨R.ZX,R.may,R.ZL,R.pn,R.pr,R.safe,R.free,R.YY⟩⟩
end
def jF(s:Int):∀(l:List Vt) (b:Vt),(l.foldl (UC s) b=b\/(l.foldl (UC s) b∈l/\(l.foldl (UC s) b).Zs=s))/\¬Zw (l.foldl (UC s) b).b b.b/\∀v∈l,v.Zs=s->¬Zw (l.foldl (UC s) b).b v.b:=by
 intro l
 induction l with
 | nil=>intro b;exact⟨.inl rfl,YR _,fun v hv=>by cases hv⟩
 | cons x l ih=>
  intro b;obtain⟨h1,h2,h3⟩:=ih (UC s b x);rw[a3];have hx:¬Zw (UC s b x).b b.b/\(x.Zs=s->¬Zw (UC s b x).b x.b)/\(UC s b x=b\/(UC s b x=x/\x.Zs=s)):=by
   unfold UC;split
   .rename_i q;exact⟨Tj q.2,fun _=>YR _,.inr ⟨rfl,q.1⟩⟩
   .rename_i q;exact⟨YR _,fun e f=>q ⟨e,f⟩,.inl rfl⟩
  refine⟨?_,Xs hx.1 h2,fun v hv e=>?_⟩
  .rcases h1 with h1|⟨h1,h4⟩
   .rw[h1];rcases hx.2.2 with q|⟨q,q2⟩
    .exact .inl q
    .rw[q];exact .inr ⟨sW,q2⟩
   .exact .inr ⟨by simp[h1],h4⟩
  .rcases bd.1 hv with rfl|hv
   .exact Xs (hx.2.1 e) h2
   .exact h3 v hv e
def Mk:∀(l:List Vt) (t:Int),t<=l.foldl (fun t v=>if t<v.Zs then v.Zs else t) t/\(∀v∈l,v.Zs<=l.foldl (fun t v=>if t<v.Zs then v.Zs else t) t)/\(l.foldl (fun t v=>if t<v.Zs then v.Zs else t) t=t\/∃v∈l,l.foldl (fun t v=>if t<v.Zs then v.Zs else t) t=v.Zs):=by
 intro l
 induction l with
 | nil=>intro t;exact⟨Int.le_refl _,fun v hv=>(by cases hv),.inl rfl⟩
 | cons x l ih=>
  intro t;obtain⟨h1,h2,h3⟩:=ih (if t<x.Zs then x.Zs else t);rw[a3];have hx:t<=(if t<x.Zs then x.Zs else t)/\x.Zs<=(if t<x.Zs then x.Zs else t)/\((if t<x.Zs then x.Zs else t)=t\/(if t<x.Zs then x.Zs else t)=x.Zs):=by
   split
   .exact⟨mD,mD,.inr rfl⟩
   .exact⟨mD,mD,.inl rfl⟩
  refine⟨mD,fun v hv=>?_,?_⟩
  .rcases bd.1 hv with rfl|hv
   .omega
   .exact h2 v hv
  .rcases h3 with h3|⟨v,hv,h3⟩
   .rcases hx.2.2 with q|q
    .exact .inl (by rw[h3,q])
    .exact .inr ⟨x,sW,by rw[h3,q]⟩
   .exact .inr ⟨v,by simp[hv],h3⟩
def Kx{v:Vt}(h:v∈(Ys r).flatten):∃m:Nat,m<5/\∃vs,Yl r.ZL (m:Int)=Z vs/\v∈vs:=by
 obtain⟨l,h1,h2⟩:=bo.1 h;unfold Ys at h1;obtain⟨m,h3,rfl⟩:=aw.1 h1;rw[bc]at h3
 cases e:Yl r.ZL (m:Int) with
 | none=>rw[e]at h2;cases h2
 | some vs=>rw[e]at h2;exact⟨m,h3,vs,e,h2⟩
def Rh{v:Vt}{m:Nat}(hm:m<5){vs:List Vt}(h:Yl r.ZL (m:Int)=Z vs)(hv:v∈vs):v∈(Ys r).flatten:=by
 refine bo.2 ⟨vs,?_,hv⟩;unfold Ys;exact aw.2 ⟨m,bc.2 hm,by rw[h];rfl⟩
def Ri(h:Ex a)(hb:∀v∈a.l,¬Zw a.p v.b):Jw a.p a.l=0:=by
 refine PU ?_ (fun j hj=>?_)
 .rintro⟨h1,h2⟩;rcases h.bal with q|q
  .exact h1 q
  .exact h2 q
 .rw[MY hj];refine⟨h.YY.1 _ (bS hj),hb _ (bS hj),?_⟩;by_cases e:j=0
  .exact .inl e
  .rw[ON (j:=j-1) mD];exact .inr (List.pairwise_iff_getElem.1 h.YY.2 (j-1) j mD hj mD)
section
variable {S:Cm->Prop} {g:Gh} {M:Nat->Yg} {i:Nat} {n:Nd}
def DJ(RI:Oj r):∀v∈(Ys r).flatten,Yu v:=fun v hv=>by
 obtain⟨m,_,vs,h1,h2⟩:=Kx hv;exact (RI.vs _ (TW h1)).1 v h2
def mg(RI:Oj r):TF (Ys r).flatten<=39:=by
 obtain⟨_,_,h3⟩:=Mk (Ys r).flatten (-1);have e:TF (Ys r).flatten=(Ys r).flatten.foldl (fun t v=>if t<v.Zs then v.Zs else t) (-1):=rfl;rcases h3 with h3|⟨v,hv,h3⟩
 .omega
 .have:=(DJ RI v hv).1;omega
def qS(G:GI S g M)(R:RR g M i n r)(RI:Oj r)(hb:r.Xf=false)(hm:5<2*r.ZL.length)(s:Nat)(hs:(s:Int)<=TF (Ys r).flatten):
  Safe g M r.b s (Oe (Ys r) s)/\(Oe (Ys r) s=dQ\/S (Oe (Ys r) s)):=by
 have h39:=mg RI;have Zms:=DJ RI;have xo:T9 (s:Int) (Ys r).flatten=0:=by
  unfold T9 Wn;rw[if_neg mD,if_pos (List.all_eq_true.2 fun v hv=>decide_eq_true (Zms v hv))]
 have hpc:Oe (Ys r) s=(Wm (s:Int) (Ys r).flatten).cm:=by unfold Oe;rw[if_pos xo]
 obtain⟨h1,_,h3⟩:=jF (s:Int) (Ys r).flatten SC;obtain⟨B,hB⟩:=ZP (Wm (s:Int) (Ys r).flatten);rw[hpc,<-hB];have eB:(Ys r).flatten.foldl (UC (s:Int)) SC=B:=hB.symm;rw[eB]at h1 h3;have hQ:=RI.ZL.maj hm;have hPF:∀i:Nat,i∈r.ZL.map (fun x=>x.1.toNat)->∃vs,Yl r.ZL (i:Int)=Z vs/\PF g M i r.b vs:=fun i hi=>by
  obtain⟨vs,h⟩:=RI.ZL.back hi;have:=R.ZL _ _ h;rw[aF]at this;exact⟨vs,h,this⟩
 have IT:∀i∈r.ZL.map (fun x=>x.1.toNat),¬Zw (M i) r.b:=fun i hi=>by
  obtain⟨vs,_,h⟩:=hPF i hi;exact h.Z5
 rcases h1 with h1|⟨h1,h4⟩
 .subst h1;refine⟨⟨_,hQ,IT,.inl fun i hi b' y JU hv=>?_⟩,.inl rfl⟩;obtain⟨vs,hv1,h⟩:=hPF i hi;obtain⟨v,v1,v2,_⟩:=h.all b' s y JU hv;have:=h3 v (Rh h.lt hv1 v1) v2;have:=(h.has v v1).1;have hvm:=Zms v (Rh h.lt hv1 v1);have:=hvm.2.1;unfold ZC at this;have h7:Zw SC.b v.b:=by unfold Zw SC;simp only;omega
  exact h3 v (Rh h.lt hv1 v1) v2 h7
 .obtain⟨m,hm5,vs,e1,e2⟩:=Kx h1;have hp:=R.ZL _ _ e1;rw[aF]at hp;obtain⟨p1,p2⟩:=hp.has B e2;rw[h4]at p1;have p3:Zw B.b r.b:=by
   refine a2 fun q=>?_;have:=UV q p2;exact R.pn hb _ _ (by rw[<-this];exact G.vp _ _ _ _ p1)
  refine⟨⟨_,hQ,IT,.inr ⟨B.b,m,p3,p1,fun i hi b' y JU hv=>?_⟩⟩,G.cmd _ _ _ (G.vp _ _ _ _ p1)⟩;obtain⟨vs',hv1,h⟩:=hPF i hi;obtain⟨v,v1,v2,v3⟩:=h.all b' s y JU hv;exact Xs v3 (h3 v (Rh h.lt hv1 v1) v2)
def zO(R:RR g M i n r)(RI:Oj r)(hm:5<2*r.ZL.length){s:Int}(hs:TF (Ys r).flatten<s):Ix g M r.b s:=by
 have hQ:=RI.ZL.maj hm;obtain⟨_,h2,_⟩:=Mk (Ys r).flatten (-1);refine⟨_,hQ,fun i hi=>?_,fun i hi b' y JU hv=>?_⟩
 .obtain⟨vs,h⟩:=RI.ZL.back hi;have:=R.ZL _ _ h;rw[aF]at this;exact this.Z5
 .obtain⟨vs,h⟩:=RI.ZL.back hi;have h:=R.ZL _ _ h;rw[aF]at h;obtain⟨vs',h'⟩:=RI.ZL.back hi;have h:=R.ZL _ _ h';rw[aF]at h;obtain⟨v,v1,v2,_⟩:=h.all b' s y JU hv;have:=h2 v (Rh h.lt h' v1);have e:TF (Ys r).flatten=(Ys r).flatten.foldl (fun t v=>if t<v.Zs then v.Zs else t) (-1):=rfl;omega
def Fm(n:Nd)(LL:List (List Vt)):∀(cnt L:Nat) (pr:List (Int × Cm)),
  (∀t y,Yl ((b8 L cnt).foldl (JO n LL) pr) t=Z y->Yl pr t=Z y\/∃s:Nat,L<=s/\s<L+cnt/\t=s/\y=Oe LL s) /\
  (∀s:Nat,L<=s->s<L+cnt->Yl n.Zi (s:Int)=am->Yl ((b8 L cnt).foldl (JO n LL) pr) (s:Int)≠am) /\
  (∀t,Yl pr t≠am->Yl ((b8 L cnt).foldl (JO n LL) pr) t≠am):=by
 intro cnt
 induction cnt with
 | zero=>intro L pr;exact⟨fun t y h=>.inl h,fun s h1 h2=>mD,fun t h=>h⟩
 | succ cnt ih=>
  intro L pr;rw[List.range'_succ,a3];obtain⟨h1,h2,h3⟩:=ih (L+1) (JO n LL pr L);have hb:∀t,Yl pr t≠am->Yl (JO n LL pr L) t≠am:=fun t h=>by
   unfold JO;split
   .rw[Xl];split
    .simp
    .exact h
   .exact h
  refine⟨fun t y h=>?_,fun s hs1 hs2 hk=>?_,fun t h=>h3 t (hb t h)⟩
  .rcases h1 t y h with h|⟨s,q1,q2,q3,q4⟩
   .unfold JO at h;split at h
    .rw[Xl]at h;split at h
     .rename_i e;cases h;exact .inr ⟨L,mD,mD,e.symm,rfl⟩
     .exact .inl h
    .exact .inl h
   .exact .inr ⟨s,mD,mD,q3,q4⟩
  .by_cases e:s=L
   .subst e;refine h3 _ ?_;unfold JO;rw[if_pos hk,Xl,if_pos rfl];simp
   .exact h2 s mD mD hk
def Ky{n:Nd}{x:Cm}:∀(k s t:Nat),JZ n r x k s=Z t->s<=t/\t<s+k/\Yl r.Yj (t:Int)=am/\Yl n.Zi (t:Int)=am:=by
 intro k
 induction k with
 | zero=>intro s t h;cases h
 | succ k ih=>
  intro s t h;unfold JZ at h;split at h
  .cases h
  .split at h
   .rename_i q;cases h;exact⟨aI _,mD,q.1,q.2⟩
   .have:=ih _ _ h;exact⟨mD,mD,this.2.2⟩
structure RB(S:Cm->Prop)(g:Gh)(M:Nat->Yg)(n:Nd)(r r':XM):Prop where
 b:r'.b=r.b
 ZL:r'.ZL=r.ZL
 YY:r'.YY=r.YY
 Xf:r'.Xf=true
 Ga:∀t y,g.P r.b t y->Yl r'.Yj t=Z y
 safe:∀t y,Yl r'.Yj t=Z y->Safe g M r.b t y/\(y=dQ\/S y)
 free:∀s:Int,(n.ZI.length:Int)<=s->Yl r'.Yj s=am->Yl n.Zi s=am->Ix g M r.b s
def RB.one{r':XM}(h:RB S g M n r r'){x:Cm}(hx:S x):RB S g M n r (QT n r' x):=by
 unfold QT;split
 .rename_i s hs;obtain⟨h1,h2,h3,h4⟩:=Ky _ _ _ hs;have ho:=h.free s mD h3 h4;refine⟨h.b,h.ZL,h.YY,h.Xf,fun t y e=>?_,fun t y e=>?_,fun t q1 q2 q3=>?_⟩
  .have:=h.Ga t y e;show Yl (ins r'.Yj (s:Int) x) t=Z y;rw[Xl,if_neg (fun e=>by rw[<-e,h3]at this;cases this)];exact this
  .have e:Yl (ins r'.Yj (s:Int) x) t=Z y:=e;rw[Xl]at e;split at e
   .rename_i q;cases e;rw[<-q];exact⟨ho.safe x,.inr hx⟩
   .exact h.safe t y e
  .have q2:Yl (ins r'.Yj (s:Int) x) t=am:=q2;rw[Xl]at q2;split at q2
   .cases q2
   .exact h.free t q1 q2 q3
 .exact h
def RB.all:∀(l:List Cm) (r':XM),RB S g M n r r'->(∀x∈l,S x)->RB S g M n r (Jp n r' l):=by
 intro l
 induction l with
 | nil=>intro r' h _;exact h
 | cons x l ih=>intro r' h hl;exact ih _ (h.one (hl x sW)) (fun y hy=>hl y (by simp[hy]))
def zQ(G:GI S g M)(R:RR g M i n r)(RI:Oj r)(hb:r.Xf=false)(hm:5<2*r.ZL.length):RB S g M n r (Wp n r):=by
 obtain⟨h1,h2,_⟩:=Fm n (Ys r) ((TF (Ys r).flatten+1).toNat-n.ZI.length) n.ZI.length r.Yj;refine⟨rfl,rfl,rfl,rfl,fun t y e=>(R.pn hb _ _ e).elim,fun t y e=>?_,fun s q1 q2 q3=>?_⟩
 .rcases h1 t y e with e|⟨s,s1,s2,rfl,rfl⟩
  .exact (R.pn hb _ _ (R.safe _ _ e)).elim
  .exact qS G R RI hb hm s mD
 .obtain⟨k,rfl⟩:∃k:Nat,s=k:=⟨s.toNat,mD⟩
  by_cases hk:(k:Int)<=TF (Ys r).flatten
  .exact (h2 k mD mD q3 q2).elim
  .exact zO R RI hm mD
def RR.rb(G:GI S g M)(R:RR g M i n r)(hb:r.Xf=true):RB S g M n r r:=
 ⟨rfl,rfl,rfl,hb,R.pr,fun t y e=>⟨G.safe _ _ _ (R.safe _ _ e),G.cmd _ _ _ (R.safe _ _ e)⟩,R.free hb⟩
def zR(G:GI S g M)(R:RR g M i n r)(RI:Oj r)(hm:5<2*r.ZL.length)(hq:∀x∈n.ZB,S x):RB S g M n r (Xi n r):=by
 unfold Xi;refine RB.all _ _ ?_ hq;split
 .rename_i hb;exact R.rb G hb
 .rename_i hb;exact zQ G R RI (by simpa using hb) hm
structure SR(S:Cm->Prop)(g:Gh)(M:Nat->Yg)(i:Nat)(o:Out)(g':Gh)(M':Nat->Yg):Prop where
 e:Ext i g M g' M'
 gi:GI S g' M'
 h:HR S g' M' i o
def SR.same(G:GI S g M){o:Out}(h:HR S g M i o):SR S g M i o g M:=⟨Ext.refl _ _ _,G,h⟩
def Zhz(hi:i<5)(G:GI S g M)(N:NR S g M i n)(hu:n.up=true)(hp:n.Zp=am)(NI:Qq C i n)(hr:n.Zh=Z r):∃g' M',SR S g M i (Jf n r) g' M':=by
 have eA:=Yf hu;have R:=N.Zh r hr;have RI:=NI.Zh r hr;have Ub:=N.acc;have hM:=N.m;rw[eA]at Ub hM;unfold Jf;split
 .rename_i c1;split
  .exact⟨g,M,.same G (.same N hu)⟩
  .rename_i c2;have ea:Jw n.Zr.p n.Zr.l=0:=Ri NI.Zr (fun v hv=>by rw[<-hM];exact G.Z5 _ _ _ _ (Ub.has v hv));have e1:YF n.Zr.p n.Zr.l r.b=0:=by
    unfold YF;rw[if_neg (by rw[ea];decide),if_neg (fun h=>h R.may),if_neg (Tj c1)]
   have e3:Jn n.data n.Y5 r.b=0:=by simpa using c2
   rw[if_pos e1,if_pos e1];refine⟨g,M,.same G ⟨N.wait hu hp (f:=JF r.b) (cD e1) ?_ ⟨r.b,rfl,rfl,e1,fun _=>⟨r,hr,rfl⟩⟩,hu,fun l hl=>by cases hl⟩⟩;rw[Y,RP];exact Lx e3
 .rename_i c1;split
  .refine⟨g,M,.same G ⟨N,hu,fun l hl=>?_⟩⟩;unfold RM at hl;obtain⟨m,_,hl⟩:=bp.1 hl;split at hl
   .rw[aU.1 hl];exact .plain (.inl rfl)
   .cases hl
  .rename_i c2;have B:=zR G R RI (by simpa using c2) N.cF;have hP:=zF G (i:=i) (b:=r.b) (l:=(Xi n r).Yj) R.ZX R.may (by rw[hM];exact c1) B.Ga (fun t y e=>(B.safe t y e).1) (fun t y e=>(B.safe t y e).2);obtain⟨E,G'⟩:=hP;obtain⟨g',FV⟩:=ZP (l9 g r.b (Xi n r).Yj);have hV:g'.V=g.V:=by rw[FV];rfl
   have hPn:∀s x,Yl (Xi n r).Yj s=Z x->g'.P r.b s x:=fun s x e=>by rw[FV];exact .inr ⟨rfl,e⟩
   have hPo:∀s x,g'.P r.b s x->Yl (Xi n r).Yj s=Z x:=fun s x e=>by
    rw[FV]at e;rcases e with e|e
    .exact B.Ga s x e
    .exact e.2
   rw[<-FV]at E G';have Nn:NR S g' M i { n with Zh:=Z (Xi n r) }:=by
    refine⟨⟨fun v hv=>E.v _ _ _ _ (N.acc.has v hv),fun b s x hv=>N.acc.all b s x (by rw[<-hV];exact hv)⟩,N.m,⟨N.tape.idle,N.tape.busy,N.tape.down,N.tape.len⟩,fun p e=>?_,fun s x e=>(N.Zi s x e).ext E,fun k x e=>(N.ZI k x e).ext E,N.cF,fun r' e=>?_⟩
    .rw[show ({ n with Zh:=Z (Xi n r) }:Nd).Zp=n.Zp from rfl,hp]at e;cases e
    .obtain rfl:=Option.some.inj e;refine⟨by rw[B.b];exact R.ZX,by rw[B.b];exact R.may,fun j vs q=>?_,fun q=>?_,?_,?_,?_,fun s K j q1 q2=>?_⟩
     .rw[B.ZL]at q;rw[B.b];exact (R.ZL j vs q).ext E
     .rw[B.Xf]at q;cases q
     .rw[B.b];exact hPo
     .rw[B.b];exact hPn
     .rw[B.b];exact fun _ s q1 q2 q3=>(B.free s q1 q2 q3).ext E
     .rw[B.YY]at q1;rw[B.b,hV];exact R.YY s K j q1 q2
   refine⟨g',M,E,G',Nn,hu,fun l hl=>?_⟩;have hl:l∈U8 n (Xi n r):=hl;unfold U8 at hl;obtain⟨s,_,hl⟩:=bp.1 hl;unfold UM at hl;split at hl
   .rename_i x hx;split at hl
    .obtain⟨m,_,hl⟩:=bp.1 hl;unfold S7 at hl;split at hl
     .obtain rfl:=aU.1 hl;refine⟨fun e=>(by cases e),fun _=>?_,fun e=>(by cases e),fun e=>(by cases e),fun e=>(by cases e)⟩;show g'.P (Xi n r).b _ _;rw[B.b];exact hPn _ _ hx
     .cases hl
    .cases hl
   .cases hl
def Bf(N:NR S g M i n)(hp:n.Zp=am)(hu:n.up=true):NR S g M i (Zo n)/\(Zo n).Zp=am/\(Zo n).up=true:=by
 unfold Zo;split
 .rename_i r hr;split
  .refine⟨⟨N.acc,N.m,⟨N.tape.idle,N.tape.busy,N.tape.down,N.tape.len⟩,fun p e=>?_,N.Zi,N.ZI,N.cF,fun r' e=>by cases e⟩,hp,hu⟩;have e:n.Zp=Z p:=e;rw[hp]at e;cases e
  .exact⟨N,hp,hu⟩
 .exact⟨N,hp,hu⟩
def ZdJ(hi:i<5)(G:GI S g M)(N:NR S g M i n)(hu:n.up=true)(hp:n.Zp=am)(NI:Qq C i n):∃g' M',SR S g M i (Z1 n) g' M':=by
 unfold Z1;split
 .rename_i r hr;exact Zhz hi G N hu hp NI hr
 .split
  .refine⟨g,M,.same G ⟨N,hu,fun l hl=>?_⟩⟩;have hl:l∈U9 n:=hl;unfold U9 at hl;obtain⟨x,hx,rfl⟩:=aw.1 hl;exact⟨fun e=>(by cases e),fun e=>(by cases e),fun e=>(by cases e),fun _=>N.cF x hx,fun e=>(by cases e)⟩
  .exact⟨g,M,.same G (.same N hu)⟩
def qU(n:Nd):∀l∈QU n,LR S g M l:=fun l hl=>by
 unfold QU at hl;split at hl
 .rw[aU.1 hl];exact .plain (.inr (.inl rfl))
 .cases hl
def NR.Yw(N:NR S g M i n):NR S g M i (Je n):=
 ⟨N.acc,N.m,⟨N.tape.idle,N.tape.busy,N.tape.down,N.tape.len⟩,fun p e=>(by have:=N.Zp p e;cases p<;>exact this),N.Zi,N.ZI,N.cF,fun r e=>by
  have R:=N.Zh r e;exact⟨R.ZX,R.may,R.ZL,R.pn,R.pr,R.safe,R.free,R.YY⟩⟩
def zS(hi:i<5)(G:GI S g M)(N:NR S g M i n)(hu:n.up=true)(hp:n.Zp=am)(NI:Qq C i n):∃g' M',SR S g M i (YH n) g' M':=by
 obtain⟨N1,p1,u1⟩:=Bf N hp hu;obtain⟨g',M',E,G',H⟩:=ZdJ hi G N1 u1 p1 (Bc NI).1;unfold YH;split
 .exact⟨g',M',E,G',H⟩
 .refine⟨g',M',E,G',H.n.Yw,H.up,fun l hl=>?_⟩;rcases ak.1 hl with hl|hl
  .exact H.ls l hl
  .exact qU _ l hl
def zT(G:GI S g M)(N:NR S g M i n)(hu:n.up=true){p:Ny}(hp:n.Zp=Z p):∃g' M',Ext i g M g' M'/\GI S g' M'/\AR g' i (XW p)/\M' i=(XW p).p/\(∀b s x,g'.P b s x↔g.P b s x)/\(∀a to v,p=.Wo a to v->g'.V i v.b v.Zs v.cm):=by
 have eA:=Yf hu;have Ub:=N.acc;have hM:=N.m;rw[eA]at Ub hM;have hPR:=N.Zp p hp;have same:∀b,¬Zw b (M i)->∃g' M',Ext i g M g' M'/\GI S g' M'/\AR g' i ⟨b,n.Zr.l⟩/\M' i=b/\(∀b s x,g'.P b s x↔g.P b s x):=fun b hb=>by
  obtain⟨E,G'⟩:=raised G hb;exact⟨g,Nj M i b,E,G',⟨Ub.has,Ub.all⟩,by unfold Nj;rw[if_pos rfl],fun _ _ _=>Iff.rfl⟩
 cases p with
 | Q8 a to b vs=>
  obtain⟨rfl,rfl,h3⟩:=hPR;obtain⟨g',M',h1,h2,h4,h5,h6⟩:=same b (by rw[hM];exact UX h3);exact⟨g',M',h1,h2,h4,h5,h6,fun _ _ _ e=>by cases e⟩
 | Zr a vs cur=>
  obtain⟨b,rfl,rfl,h3,_⟩:=hPR;obtain⟨g',M',h1,h2,h4,h5,h6⟩:=same b (by rw[hM];exact UX h3);exact⟨g',M',h1,h2,h4,h5,h6,fun _ _ _ e=>by cases e⟩
 | Wo a to v=>
  obtain⟨rfl,h3,h4⟩:=hPR;have Xw:=UY h3;obtain⟨E,G'⟩:=Zfb G h4 (by rw[hM];exact Xw);refine⟨_,_,E,G',⟨fun u hu=>?_,fun b s x hv=>?_⟩,by unfold Nj;rw[if_pos rfl];rfl,fun _ _ _=>Iff.rfl,fun _ _ _ e=>by cases e;exact .inr ⟨rfl,rfl,rfl,rfl⟩⟩
  .have hu:u∈n.Zr.l.filter (fun x=>decide (x.Zs<v.Zs))++v :: n.Zr.l.filter (fun x=>decide (v.Zs<x.Zs)):=hu;rcases ak.1 hu with hu|hu
   .exact .inl (Ub.has u (a5.1 hu).1)
   .rcases bd.1 hu with rfl|hu
    .exact .inr ⟨rfl,rfl,rfl,rfl⟩
    .exact .inl (Ub.has u (a5.1 hu).1)
  .have Zfe:v∈Jh n.Zr.l v:=by unfold Jh;simp
   rcases hv with hv|⟨_,rfl,rfl,rfl⟩
   .obtain⟨u,u1,u2,u3⟩:=Ub.all b s x hv;by_cases e:u.Zs=v.Zs
    .refine⟨v,Zfe,by rw[<-e];exact u2,?_⟩;have:=G.Z5 _ _ _ _ hv;rw[hM]at this;exact Xs this Xw
    .refine⟨u,?_,u2,u3⟩;show u∈Jh n.Zr.l v;unfold Jh;rcases Int.lt_or_gt_of_ne e with q|q
     .exact ak.2 (.inl (a5.2 ⟨u1,by simpa using q⟩))
     .exact ak.2 (.inr (bd.2 (.inr (a5.2 ⟨u1,by simpa using q⟩))))
   .exact⟨v,Zfe,rfl,YR _⟩
def NR.rest(N:NR S g M i n){g':Gh}{M':Nat->Yg}(E:Ext i g M g' M')(hP:∀b s x,g'.P b s x↔g.P b s x):(∀s x,Yl n.Zi s=Z x->QX g' s x)/\(∀(k:Nat) x,n.ZI[k]? = Z x->QX g' (k:Int) x)/\∀r,n.Zh=Z r->RR g' M' i n r:=by
 refine⟨fun s x e=>(N.Zi s x e).ext E,fun k x e=>(N.ZI k x e).ext E,fun r e=>?_⟩;have R:=N.Zh r e;exact⟨R.ZX,R.may,fun j vs q=>(R.ZL j vs q).ext E,fun q s x h=>R.pn q s x ((hP _ _ _).1 h),fun s x h=>R.pr s x ((hP _ _ _).1 h),fun s x h=>(hP _ _ _).2 (R.safe s x h),fun q s q1 q2 q3=>(R.free q s q1 q2 q3).ext E,fun s K j q1 q2=>by
  obtain⟨x,hx⟩:=R.YY s K j q1 q2;exact⟨x,E.v _ _ _ _ hx⟩⟩
def cH(T:TR n)(hu:n.up=true){p:Ny}(hp:n.Zp=Z p):(ZJ n).data=n.data/\(ZJ n).Y5=(U n.data)/\Whole n.data (XW p):=by
 obtain⟨d,f,h1,h2,h3,h4⟩:=T.busy hu p hp;have hl:=T.len;have ok:YT n.data n.Y5:=⟨hl,mD,by rw[h2,h1,Y];omega⟩
 refine⟨by unfold ZJ;simp only[if_pos ok],by unfold ZJ;simp only[if_pos ok],?_⟩;rw[h1];exact h3.add h4
def zU(hi:i<5)(G:GI S g M)(N:NR S g M i n)(hu:n.up=true)(Hj:n.me=i){p:Ny}(hp:n.Zp=Z p):∃g' M',SR S g M i (Yp (ZJ n) p) g' M':=by
 obtain⟨g',M',E,G',A,m',hP,hvt⟩:=zT G N hu hp;obtain⟨r1,r2,r3⟩:=N.rest E hP;obtain⟨t1,t2,t3⟩:=cH N.tape hu hp;have hPR:=N.Zp p hp;have hl:=N.tape.len;have base:∀(m:Nd),m.up=n.up->m.data=n.data->m.Y5=(U n.data)->m.Zr=XW p->m.Zp=am->m.Zi=n.Zi->m.ZI=n.ZI->m.ZB=n.ZB->(∀r,m.Zh=Z r->RR g' M' i m r)->NR S g' M' i m:=fun m e1 e2 e3 e4 e5 e6 e7 e8 e9=>by
  have eA:YD m=XW p:=by rw[Yf (by rw[e1];exact hu),e4]
  refine⟨by rw[eA];exact A,by rw[eA];exact m',⟨fun _ _=>⟨by rw[e2,e4];exact t3,by rw[e3,e2]⟩,fun _ q hq=>(by rw[e5]at hq;cases hq),fun h=>(by rw[e1,hu]at h;cases h),by rw[e2];exact hl⟩,fun q hq=>(by rw[e5]at hq;cases hq),by rw[e6];exact r1,by rw[e7];exact r2,by rw[e8];exact N.cF,e9⟩
 have rr:∀(m:Nd),m.Zi=n.Zi->m.ZI=n.ZI->∀r,RR g' M' i n r->RR g' M' i m r:=fun m e1 e2 r R=>⟨R.ZX,R.may,R.ZL,R.pn,R.pr,R.safe,fun q s q1 q2 q3=>R.free q s (by rw[<-e2];exact q1) q2 (by rw[<-e1];exact q3),R.YY⟩
 have pf:=A.pf G' hi m';refine⟨g',M',E,G',?_⟩
 cases p with
 | Q8 a to b vs=>
  obtain⟨rfl,rfl,h3⟩:=hPR;show HR S g' M' i ⟨{ ZJ n with Zr:=⟨b,n.Zr.l⟩ },[⟨1,n.me,to,b,SC,n.Zr.l⟩],[]⟩;refine .one (base { ZJ n with Zr:=⟨b,n.Zr.l⟩ } rfl t1 t2 rfl rfl rfl rfl rfl fun r e=>rr { ZJ n with Zr:=⟨b,n.Zr.l⟩ } rfl rfl r (r3 r e)) hu ⟨fun _=>?_,fun e=>(by cases e),fun e=>(by cases e),fun e=>(by cases e),fun e=>(by cases e)⟩;show PF g' M' (((n.me:Nat):Int)).toNat b n.Zr.l;rw[aF,Hj];exact pf
 | Wo a to v=>
  obtain⟨rfl,h3,h4⟩:=hPR;show HR S g' M' i ⟨{ ZJ n with Zr:=⟨v.b,Jh n.Zr.l v⟩ },[⟨3,n.me,to,X2,v,[]⟩],[]⟩;refine .one (base { ZJ n with Zr:=⟨v.b,Jh n.Zr.l v⟩ } rfl t1 t2 rfl rfl rfl rfl rfl fun r e=>rr { ZJ n with Zr:=⟨v.b,Jh n.Zr.l v⟩ } rfl rfl r (r3 r e)) hu ⟨fun e=>(by cases e),fun e=>(by cases e),fun _=>?_,fun e=>(by cases e),fun e=>(by cases e)⟩;show g'.V (((n.me:Nat):Int)).toNat v.b v.Zs v.cm;rw[aF,Hj];exact hvt _ _ _ rfl
 | Zr a vs cur=>
  obtain⟨b,rfl,rfl,h3,h4⟩:=hPR;show HR S g' M' i ⟨{ ZJ n with Zr:=⟨b,n.Zr.l⟩,Zh:=if cur=true then (ZJ n).Zh.map (fun r=>{ r with ZL:=ins r.ZL (ZJ n).me n.Zr.l }) else (ZJ n).Zh },[],[]⟩;refine .same (base { ZJ n with Zr:=⟨b,n.Zr.l⟩,Zh:=if cur=true then (ZJ n).Zh.map (fun r=>{ r with ZL:=ins r.ZL (ZJ n).me n.Zr.l }) else (ZJ n).Zh } rfl t1 t2 rfl rfl rfl rfl rfl fun r e=>?_) hu
  cases hc:cur with
  | false=>
   have e:n.Zh=Z r:=by
    have e:(if cur=true then (ZJ n).Zh.map (fun r=>{ r with ZL:=ins r.ZL (ZJ n).me n.Zr.l }) else (ZJ n).Zh)=Z r:=e;rw[hc]at e;exact e
   refine rr ?m ?a ?b r (r3 r e)
   .rfl
   .rfl
  | true=>
   obtain⟨r0,hr0,hb0⟩:=h4 hc;have e:(if cur=true then (ZJ n).Zh.map (fun r=>{ r with ZL:=ins r.ZL (ZJ n).me n.Zr.l }) else (ZJ n).Zh)=Z r:=e;rw[hc,if_pos rfl,show (ZJ n).Zh=n.Zh from rfl,hr0]at e;obtain rfl:=Option.some.inj e;have R:=r3 r0 hr0;have R2:RR g' M' i n { r0 with ZL:=ins r0.ZL ((n.me:Nat):Int) n.Zr.l }:=by
    refine⟨R.ZX,R.may,fun j vs q=>?_,R.pn,R.pr,R.safe,R.free,R.YY⟩;have q:Yl (ins r0.ZL ((n.me:Nat):Int) n.Zr.l) j=Z vs:=q;rw[Xl]at q;split at q
    .rename_i qq
     cases q
     rw[<-qq,aF,Hj];have:PF g' M' i b n.Zr.l:=pf;rw[<-hb0]at this;exact this
    .exact R.ZL j vs q
   exact⟨R2.ZX,R2.may,R2.ZL,R2.pn,R2.pr,R2.safe,R2.free,R2.YY⟩
def mh(hi:i<5)(G:GI S g M):∀(k:List Yn) (n:Nd),NR S g M i n->n.up=true->n.Zp=am->Qq C i n->(∀l∈k,Qb C l/\LR S g M l) ->
  HR S g M i (Zy n k)/\Qq C i (Zy n k).n/\(∀l∈(Zy n k).n.Zf,LR S g M l):=by
 intro k
 induction k with
 | nil=>
  intro n N hu hp NI _;unfold Zy;exact⟨.same (N.box []) hu,{ NI with },fun l hl=>by cases hl⟩
 | cons l k ih=>
  intro n N hu hp NI hk;unfold Zy;rw[if_neg (by rw[hp];decide)];have H:=cG hi G (N.box k) hu hp (NI.Zf k) (hk l sW).1 (hk l sW).2;have I:=(Ok hi (NI.Zf k) (hk l sW).1).nd;obtain⟨m,hm⟩:=ZP ((Zx { n with Zf:=k } l).n);have Hn:=H.n;have Hu:=H.up;rw[<-hm]at Hn Hu I;rw[<-hm];by_cases hpm:m.Zp=am
  .obtain⟨h1,h2,h3⟩:=ih m Hn Hu hpm I (fun x hx=>hk x (by simp[hx]));refine⟨⟨h1.n,h1.up,fun x hx=>?_⟩,h2,h3⟩;rcases ak.1 hx with hx|hx
   .exact H.ls x hx
   .exact h1.ls x hx
  .have hs:m.Zp.isSome=true:=by
    cases q:m.Zp with
    | none=>exact (hpm q).elim
    | some _=>rfl
   have key:(Zy m k).n = { m with Zf:=k }/\(Zy m k).ls=[]:=by
    cases k with
    | nil=>unfold Zy;exact⟨rfl,rfl⟩
    | cons a k=>unfold Zy;rw[if_pos hs];exact⟨rfl,rfl⟩
   rw[key.1,key.2];refine⟨⟨Hn.box k,Hu,fun x hx=>?_⟩,I.Zf k,fun x hx=>(hk x (by
    have hx:x∈k:=hx;simp[hx])).2⟩
   rcases ak.1 hx with hx|hx
   .exact H.ls x hx
   .cases hx
end
structure TS(S:Cm->Prop)(g:Gh)(M:Nat->Yg)(i:Nat)(o:Out)(g':Gh)(M':Nat->Yg):Prop where
 e:Ext i g M g' M'
 gi:GI S g' M'
 n:NR S g' M' i o.n
 ls:∀l∈o.ls,LR S g' M' l
 QD:∀l∈o.n.Zf,LR S g' M' l
section
variable {S:Cm->Prop} {g:Gh} {M:Nat->Yg} {i:Nat} {n:Nd}
def TS.Zo(G:GI S g M)(N:NR S g M i n)(hb:∀l∈n.Zf,LR S g M l):TS S g M i ⟨n,[],[]⟩ g M:=⟨Ext.refl _ _ _,G,N,(fun l hl=>by cases hl),hb⟩
def ZhB(hi:i<5)(G:GI S g M)(N:NR S g M i n)(hC:(U C)<=100000)(NI:Qq C i n)(hk:∀l∈n.Zf,Qb C l/\LR S g M l):∃g' M',TS S g M i (step n) g' M':=by
 unfold step;split
 .rename_i hu;split
  .rename_i p hp;obtain⟨g',M',E,G',H⟩:=zU hi G N hu NI.me hp;have Hh:=(Fe hi (Fc NI) (NI.Zp p hp)).2.2.1;refine⟨g',M',E,G',H.n,H.ls,fun l hl=>?_⟩;rw[Hh]at hl;exact (hk l hl).2.ext E
  .rename_i hp;obtain⟨H,I,B⟩:=mh hi G n.Zf n N hu hp NI hk;split
   .exact⟨g,M,Ext.refl _ _ _,G,H.n,H.ls,B⟩
   .rename_i Pv;have ZvK:(Zy n n.Zf).n.Zp=am:=by
     cases q:(Zy n n.Zf).n.Zp with
     | none=>rfl
     | some _=>rw[q]at Pv;exact (Pv rfl).elim
    obtain⟨g',M',E,G',D⟩:=zS hi G H.n H.up ZvK I;have Hh:=(jr hi hC I).2.2.1;refine⟨g',M',E,G',D.n,fun l hl=>?_,fun l hl=>?_⟩
    .rcases ak.1 hl with hl|hl
     .exact (H.ls l hl).ext E
     .exact D.ls l hl
    .have hl:l∈(YH (Zy n n.Zf).n).n.Zf:=hl;rw[Hh]at hl;exact (B l hl).ext E
 .exact⟨g,M,.Zo G N fun l hl=>(hk l hl).2⟩
def ZhC(hi:i<5)(G:GI S g M)(N:NR S g M i n)(NI:Qq C i n):NR S g M i (lead n):=by
 unfold lead;split
 .exact N
 .rename_i q;have hu:n.up=true:=by
   cases e:n.up with
   | true=>rfl
   | false=>exact (q (.inl e)).elim
  have eA:=Yf hu;have hM:=N.m;rw[eA]at hM;have hr:¬65536<(YM n).r:=fun e=>q (.inr e);have qW:=NI.Zr.qD.1;have hrr:n.Zr.p.r<(YM n).r/\1<=(YM n).r:=by
   unfold YM;simp only;split<;>omega
  have tX:∀s x,¬g.P (YM n) s x:=fun s x h=>by
   have:=G.Zr _ _ _ h;rw[show (YM n).n=((n.me:Nat):Int) from rfl,aF,NI.me,hM]at this;exact this (.inl hrr.1)
  have Vg:(YM n).n=i:=by rw[show (YM n).n=((n.me:Nat):Int) from rfl,NI.me]
  refine⟨N.acc,N.m,⟨fun h1 h2=>N.tape.idle h1 ?_,fun h1 p hp=>?_,fun h=>?_,N.tape.len⟩,fun p hp=>?_,N.Zi,N.ZI,N.cF,fun r e=>?_⟩
  .have h2:Xz n.Zp=am:=h2
   cases e:n.Zp with
   | none=>rfl
   | some p=>rw[e]at h2;cases p<;>cases h2
  .have hp:Xz n.Zp=Z p:=hp
   cases e:n.Zp with
   | none=>rw[e]at hp;cases hp
   | some p0=>
    obtain⟨d,f,t1,t2,t3,t4⟩:=N.tape.busy hu p0 e;refine⟨d,f,t1,t2,t3,?_⟩;have:XW p=XW p0:=by
     rw[e]at hp
     cases p0<;>cases hp<;>rfl
    rw[this];exact t4
  .have h:n.up=false:=h;rw[hu]at h;cases h
  .have hp:Xz n.Zp=Z p:=hp
   cases e:n.Zp with
   | none=>rw[e]at hp;cases hp
   | some p0=>
    have P:=N.Zp p0 e;rw[e]at hp
    cases p0 with
    | Q8 a to b vs=>cases hp;exact P
    | Wo a to v=>cases hp;exact P
    | Zr a vs cur=>
     cases hp
     obtain⟨b,h1,h2,h3,_⟩:=P;exact⟨b,h1,h2,h3,fun h=>by cases h⟩
  .obtain rfl:=Option.some.inj e;exact⟨Vg,⟨⟨hrr.2,by show (YM n).r<=65536;omega⟩,by show 0<=(YM n).n/\(YM n).n<=4;rw[Vg];omega⟩,fun j vs h=>(by cases h),fun _ s x=>tX s x,fun s x h=>(tX s x h).elim,fun s x h=>(by cases h),fun h=>(by cases h),fun s K j h=>by cases h⟩
def Ho{A:Qo}{up:Bool}{z:Int}(Ub:AR g i (YD (Yk i up d z A)))(hm:M i=(YD (Yk i up d z A)).p)(ht:TR (Yk i up d z A)):NR S g M i (Yk i up d z A):=
 ⟨Ub,hm,ht,fun p e=>(by cases e),fun s x e=>(by cases e),fun k x e=>(by simp[Yk]at e),fun x e=>(by cases e),fun r e=>by cases e⟩
def Wz(i:Nat)(n:Nd)(keep:Int)(hu:n.up=true):∃d z,Yo i n keep=Yk i false d z JG:=by
 unfold Yo;rw[if_pos hu];split
 .exact⟨_,_,rfl⟩
 .exact⟨_,_,rfl⟩
def qX(G:GI S g M)(N:NR S g M i n)(hb:∀l∈n.Zf,LR S g M l){keep:Int}(hk:0<=keep):∃g' M',TS S g M i ⟨Yo i n keep,[],[]⟩ g' M':=by
 cases hu:n.up with
 | false=>
  have:Yo i n keep=n:=by unfold Yo;rw[if_neg (by rw[hu];decide)]
  rw[this];exact⟨g,M,.Zo G N hb⟩
 | true=>
  obtain⟨t1,t2,t3⟩:=Fk N.tape hu hk (i:=i);obtain⟨d,z,e⟩:=Wz i n keep hu;rw[e]at t1 t2 t3 ⊢;have eA:=Yf hu;rcases t3 with t3|⟨p,hp,t3⟩
  .have Ub:=N.acc;have hm:=N.m;rw[eA,<-t3]at Ub hm;exact⟨g,M,.Zo G (Ho Ub hm t1) (fun l hl=>by cases hl)⟩
  .obtain⟨g',M',E,G',A,m',_,_⟩:=zT G N hu hp;rw[<-t3]at A m';exact⟨g',M',E,G',Ho A m' t1,(fun l hl=>by cases hl),fun l hl=>by cases hl⟩
def qY(N:NR S g M i n):NR S g M i (started i n):=by
 cases hu:n.up with
 | true=>
  have:started i n=n:=by unfold started;rw[if_pos hu]
  rw[this];exact N
 | false=>
  obtain⟨t1,t2,t3⟩:=Fl N.tape hu (i:=i);have Ub:=N.acc;have hm:=N.m;have e2:=Yf t2;rw[t3]at e2;rw[<-e2]at Ub hm;have e:∃d z A,started i n=Yk i true d z A:=by
   unfold started;rw[if_neg (by rw[hu];decide)];exact⟨_,_,_,rfl⟩
  obtain⟨d,z,A,e⟩:=e;rw[e]at t1 Ub hm ⊢;exact Ho Ub hm t1
end
structure TI(S:Cm->Prop)(g:Gh)(M:Nat->Yg)(w:Wd):Prop where
 gi:GI S g M
 nd:∀i,i<5->NR S g M i (w.Zc i)
 TA:∀l∈w.Zm,LR S g M l
 QD:∀i,i<5->∀l∈(w.Zc i).Zf,LR S g M l
section
variable {S:Cm->Prop} {g:Gh} {M:Nat->Yg} {w:Wd}
def TI.out(T:TI S g M w){i:Nat}{o:Out}{g':Gh}{M':Nat->Yg}(h:TS S g M i o g' M'):TI S g' M' (w.out i o):=by
 unfold Wd.out;refine⟨h.gi,fun j hj=>?_,fun l hl=>?_,fun j hj l hl=>?_⟩
 .by_cases e:j=i
  .subst e;simpa using h.n
  .simp only[if_neg e];exact (T.nd j hj).ext h.e e
 .rcases ak.1 hl with hl|hl
  .exact (T.TA l hl).ext h.e
  .exact h.ls l hl
 .by_cases e:j=i
  .subst e;simp only[if_true]at hl;exact h.QD l hl
  .simp only[if_neg e]at hl;exact (T.QD j hj l hl).ext h.e
def jG(T:TI S g M w){l:Yn}(hl:LR S g M l)(ht:0<=l.to/\l.to<5):TI S g M (JP w l):=by
 unfold JP;split
 .refine⟨T.gi,fun i hi=>?_,T.TA,fun i hi x hx=>?_⟩
  .unfold Wd.set;by_cases e:i=l.to.toNat
   .simp only[if_pos e];rw[e];exact (T.nd _ mD).box _
   .simp only[if_neg e];exact T.nd i hi
  .unfold Wd.set at hx;by_cases e:i=l.to.toNat
   .simp only[if_pos e]at hx;rcases ak.1 hx with hx|hx
    .exact T.QD _ mD x hx
    .rw[aU.1 hx];exact hl
   .simp only[if_neg e]at hx;exact T.QD i hi x hx
 .exact T
def ZdK:∀(ls:List Yn) (w:Wd),TI S g M w->(∀l∈ls,LR S g M l/\0<=l.to/\l.to<5)->TI S g M (ls.foldl JP w):=by
 intro ls
 induction ls with
 | nil=>intro w T _;exact T
 | cons l ls ih=>intro w T h;exact ih _ (jG T (h l sW).1 (h l sW).2) (fun x hx=>h x (by simp[hx]))
def TI.Zff(T:TI S g M w){fl:List Yn}(h:∀l∈fl,l∈w.Zm):TI S g M { w with Zm:=fl }:=⟨T.gi,T.nd,fun l hl=>T.TA l (h l hl),T.QD⟩
def zW(hC:(U C)<=100000)(W:WI C k w)(T:TI S g M w)(a:Ac)(hi:a.ZX<5)(hk:0<=a.keep)(hS:∀now:Nat,a.ZH=1->Xg a.data now=0->S (J2 a.data now)):
  ∃g' M',(∀j b s x,g.V j b s x->g'.V j b s x)/\TI S g' M' (act w a):=by
 have same:∀{v:Wd},TI S g M v->∃g' M',(∀j b s x,g.V j b s x->g'.V j b s x)/\TI S g' M' v:=fun h=>⟨g,M,fun _ _ _ _ h=>h,h⟩
 have N:=T.nd a.ZX hi;have NI:=W.nd a.ZX hi;unfold act;split
 .rename_i hk1;refine same ?_;unfold Wq;split
  .split
   .exact⟨T.gi,T.nd,T.TA,T.QD⟩
   .rename_i q;split
    .exact⟨T.gi,T.nd,T.TA,T.QD⟩
    .rw[VF];have hx:=hS _ hk1 (by simpa using q);obtain⟨A,_,_⟩:=Zfc N hx;have s1:(add (w.Zc a.ZX) (J2 a.data (w.Zc a.ZX).ZI.length)).Zf=(w.Zc a.ZX).Zf:=by unfold add;split<;>rfl
     refine T.out ⟨Ext.refl _ _ _,T.gi,?_,(fun l hl=>by cases hl),fun l hl=>?_⟩
     .unfold Of;simp only;split
      .exact A
      .exact⟨A.acc,A.m,⟨A.tape.idle,A.tape.busy,A.tape.down,A.tape.len⟩,fun p e=>(by have:=A.Zp p e;cases p<;>exact this),A.Zi,A.ZI,A.cF,fun r e=>by
        have R:=A.Zh r e;exact⟨R.ZX,R.may,R.ZL,R.pn,R.pr,R.safe,R.free,R.YY⟩⟩
     .have s2:(Of (add (w.Zc a.ZX) (J2 a.data (w.Zc a.ZX).ZI.length)) (J2 a.data (w.Zc a.ZX).ZI.length)).Zf=(w.Zc a.ZX).Zf:=by
       unfold Of;split<;>exact s1
      exact T.QD _ hi l (by rw[<-s2];exact hl)
  .exact T
 split
 .refine same ?_;rw[VF];refine T.out ⟨Ext.refl _ _ _,T.gi,ZhC hi T.gi N NI,(fun l hl=>by cases hl),fun l hl=>?_⟩;have hl:l∈(lead (w.Zc a.ZX)).Zf:=hl;rw[(jt NI).2.1]at hl;exact T.QD _ hi l hl
 split
 .obtain⟨g',M',h⟩:=ZhB hi T.gi N hC NI (fun l hl=>⟨W.QD _ hi l hl,T.QD _ hi l hl⟩);exact⟨g',M',h.e.v,T.out h⟩
 split
 .refine same ?_;unfold pick;split
  .exact T
  .rename_i l hl;have qr:l∈w.Zm:=List.mem_of_getElem? hl;have T2:=T.Zff (fl:=w.Zm.eraseIdx (a.at'%w.Zm.length)) (fun x hx=>List.mem_of_mem_eraseIdx hx);have ht:=(W.TA l qr).to;split
   .split
    .exact jG T (T.TA l qr) ht
    .exact jG T2 (T.TA l qr) ht
   .split
    .exact T
    .exact T2
 split
 .exact same (ZdK _ _ (T.Zff (fl:=[]) (fun l hl=>by cases hl)) (fun l hl=>⟨T.TA l hl,(W.TA l hl).to⟩))
 split
 .obtain⟨g',M',h⟩:=qX T.gi N (T.QD _ hi) hk;rw[VF];exact⟨g',M',h.e.v,T.out h⟩
 .refine same ?_;rw[VF];refine T.out ⟨Ext.refl _ _ _,T.gi,qY N,(fun l hl=>by cases hl),fun l hl=>?_⟩;rcases (DD NI (i:=a.ZX)).2 with⟨q,_⟩|q
  .have hl:l∈(started a.ZX (w.Zc a.ZX)).Zf:=hl;rw[q]at hl;cases hl
  .have hl:l∈(started a.ZX (w.Zc a.ZX)).Zf:=hl;rw[q]at hl;exact T.QD _ hi l hl
def gh0:Gh:=⟨fun _ _ _ _=>False,fun _ _ _=>False⟩
def Fo:TI S gh0 (fun _=>X2) Ud:=by
 refine⟨⟨fun _ _ _ _ h=>h.elim,fun _ _ _ _ h=>h.elim,fun _ _ _ _ h=>h.elim,fun _ _ _ h=>h.elim,fun _ _ _ h=>h.elim,fun _ _ _ h=>h.elim,fun _ _ _ h=>h.elim⟩,fun i hi=>?_,(fun l hl=>by cases hl),fun i hi l hl=>by cases hl⟩;exact Ho ⟨fun v hv=>(by cases hv),fun _ _ _ h=>h.elim⟩ rfl (zM i)
def cI(S:Cm->Prop)(C:List Cm)(a:Ac):Prop:=(a.ZX<5/\Ti a.data∈C)/\0<=a.keep/\∀now:Nat,a.ZH=1->Xg a.data now=0->S (J2 a.data now)
def cJ(hC:(U C)<=100000):∀(l:List Ac) (k:Nat) (w:Wd) (g:Gh) (M:Nat->Yg),WI C k w->TI S g M w->(∀a∈l,cI S C a) ->
  ∃g' M',(∀j b s x,g.V j b s x->g'.V j b s x)/\TI S g' M' (l.foldl act w)/\WI C (k+(U l)) (l.foldl act w):=by
 intro l
 induction l with
 | nil=>intro k w g M W T _;exact⟨g,M,fun _ _ _ _ h=>h,T,W⟩
 | cons a l ih=>
  intro k w g M W T hl;obtain⟨h1,h2,h3⟩:=hl a sW;obtain⟨g1,M1,v1,T1⟩:=zW hC W T a h1.1 h2 h3;obtain⟨g2,M2,v2,T2,W2⟩:=ih (k+1) (act w a) g1 M1 (lV hC W a h1.1 h1.2) T1 (fun x hx=>hl x (by simp[hx]));refine⟨g2,M2,fun _ _ _ _ h=>v2 _ _ _ _ (v1 _ _ _ _ h),T2,?_⟩;rw[bk,show k+((U l)+1)=k+1+(U l) by omega];exact W2
def Fp(hC:(U C)<=100000)(l:List Ac)(hl:∀a∈l,cI S C a)(p q:Nat)(zd:p<=q)(i j:Nat)(hi:i<5)(hj:j<5)(s:Nat)(x y:Cm)(hx:((TG (l.take p)).Zc i).ZI[s]? = Z x)(hy:((TG (l.take q)).Zc j).ZI[s]? = Z y):x=y:=by
 obtain⟨g1,M1,_,T1,W1⟩:=cJ hC (l.take p) 0 Ud gh0 (fun _=>X2) (Om C) Fo (fun a ha=>hl a (bA ha));have e:l.take q=l.take p++(l.take q).drop p:=by
  have:=(bw p (l.take q)).symm
  rwa [ck,cc zd]at this
 obtain⟨g2,M2,v2,T2,_⟩:=cJ hC ((l.take q).drop p) _ (TG (l.take p)) g1 M1 W1 T1 (fun a ha=>hl a (bA (List.mem_of_mem_drop ha)));have e2:TG (l.take q)=((l.take q).drop p).foldl act (TG (l.take p)):=by
  conv=>lhs;rw[e]
  unfold TG;rw[bG]
 rw[<-e2]at T2;have c1:=(T1.nd i hi).ZI s x hx;have c2:=(T2.nd j hj).ZI s y hy;obtain⟨Q,b,hQ,hv⟩:=c1;exact QX.one T2.gi ⟨Q,b,hQ,fun k hk=>v2 _ _ _ _ (hv k hk)⟩ c2
end
set_option maxRecDepth 100000
def alk(a b:List Cm):Bool:=decide (∀i:Nat,i<(U a)->i<(U b)->a[i]? = b[i]?)
def zX{a b:List Cm}(h:∀(i:Nat) x y,a[i]? = Z x->b[i]? = Z y->x=y):alk a b=true:=by
 unfold alk;refine decide_eq_true fun i h1 h2=>?_;rw[au h1,au h2,h i _ _ (au h1) (au h2)]
def zY(T:World)(h:Hp)(u v:aK)(a b:List Cm)(su:Ts Un.C 5 h u a)(sv:Ts Un.C 5 h v b)(hl:(U a)<=1000000):
  Zg ba T 9 #[u,v] h fun v' h'=>v'=a7 (alk a b)/\h'=h:=by
 obtain⟨p,c,rfl,XH⟩:=Jy su;obtain⟨q,d,rfl,hds⟩:=Jy sv;refine Zg.XK [_,_] Tryz.func9 ?_;simp only[go_sem];refine VS.Yq (fun F g=>g=h/\F 0=al p (U a) c/\F 1=al q (U b) d/\∃i:Nat,i<=(U a)/\F 5=an aa i/\∀j,j<i->j<(U a)->j<(U b)->a[j]? = b[j]?)
  (fun F _=>(U a)-(vi (F 5)).toNat) rfl ⟨rfl,rfl,rfl,0,mD,rfl,fun j hj=>by omega⟩ ?_
 rintro F g ⟨rfl,f0,f1,i,hi,f5,XT⟩;by_cases hla:i<(U a)
 .have zZ:(i:Int)<(U a):=mD;by_cases sX:i<(U b)
  .have ZdL:(i:Int)<(U b):=mD;obtain⟨bb,oo,rfl,Tu,Gs⟩:=XH (by intro e;rw[e]at hla;simp at hla);obtain⟨b2,o2,rfl,Zk9,ZvL⟩:=hds (by intro e;rw[e]at sX;simp at sX);have r1:=Gs i hla;have r2:=ZvL i sX;simp only[go_sem,f0,f1,f5,zZ,ZdL];refine VS.q mixed sV ?_;simp only[go_sem,f0,f1,f5,zZ,ZdL,r1,r2];by_cases e:a[i]=b[i]
   .simp only[go_sem,e,f0,f1,f5];refine⟨⟨rfl,f0,f1,i+1,hla,rfl,fun j hj h1 h2=>?_⟩,?_⟩
    .by_cases ej:j=i
     .subst ej;rw[au h1,au h2,e]
     .exact XT j mD h1 h2
    .simp only[vi,Zt,↓reduceIte,f5];omega
   .have en:alk a b=false:=decide_eq_false fun h=>e (by
     have:=h i hla sX;rw[au hla,au sX]at this;exact Option.some.inj this)
    rw[en];simp only[go_sem,e]
  .have ZdL:¬(i:Int)<(U b):=mD;have et:alk a b=true:=decide_eq_true fun j h1 h2=>XT j mD h1 h2;rw[et];simp only[go_sem,f0,f1,f5,zZ,ZdL]
 .have zZ:¬(i:Int)<(U a):=mD;have et:alk a b=true:=decide_eq_true fun j h1 h2=>XT j mD h1 h2;rw[et];simp only[go_sem,f0,f1,f5,zZ]
def qZ(g:Gr):(Rg g).length<=63:=by
 unfold Rg Zhx;split
 .unfold pN;have:=yc (WO (dW g).c.toNat) (Ue g.a 1000).toNat (ya (qL g) (qM g) 60 (dW g).k (dW g).c (dW g).s (dW g).n (dW g).v);have e:(ya (qL g) (qM g) 60 (dW g).k (dW g).c (dW g).s (dW g).n (dW g).v).length=42:=by
   unfold ya;rw[Y,Ik,ZW];rfl
  rw[bk];omega
 .simp
def rh(g:Gr):(On g).length<=63:=by
 have:=qZ g;unfold On;split
 .rw[bn];omega
 .exact this
def Zaa(g:Gr)(cr:Bool):(Up g cr).err=0:=by
 have h1:=Q6 g.a (m:=5) mD;have h2:=Q6 g.c (m:=20) mD;have h3:=Q6 g.c (m:=90) mD;have h4:=rh g;have mk:∀(k n a b:Int) (len:Nat),(1<=k/\k<=9)->(Xx k/\(0<=n/\n<=4)\/¬Xx k/\n=0)->(Qs k/\(0<=a/\a<=1048576)\/¬Qs k/\a=0)->(k=8/\(0<=b/\b<=100000)\/k≠8/\b=0)->len<=2000->(k=1\/len=0)->Us k n a b len=0:=fun k n a b len q1 q2 q3 q4 q5 q6=>by
  unfold Xx at q2;unfold Qs at q3;unfold Us Xx Qs;rw[if_neg mD,if_neg mD,if_neg mD,if_neg mD]
 unfold Up
 repeat' split
 all_goals
  unfold Raw.err;refine mk _ _ _ _ _ ?_ ?_ ?_ ?_ ?_ ?_
 all_goals simp[Xx,Qs]
 all_goals omega
def Zab(gs:List Gr)(cr:Bool):∀j,∀x∈(Oo gs cr j).2,x.err=0:=by
 have key:∀(l:List Gr) (st:Nat × List Raw),(∀x∈st.2,x.err=0)->∀x∈(l.foldl (UU cr) st).2,x.err=0:=by
  intro l
  induction l with
  | nil=>intro st h;exact h
  | cons g l ih=>
   intro st h;refine ih _ (fun x hx=>?_);unfold UU at hx;rcases ak.1 hx with hx|hx
   .exact h x hx
   .rw[aU.1 hx];unfold VG;split
    .rfl
    .exact Zaa g cr
 intro j;exact key _ _ (fun x hx=>by cases hx)
def ZdM(gs:List Gr)(Jt:Nat)(cr:Bool):∀x∈scr gs Jt cr,x.err=0:=Zab gs cr Jt
def ZdN(gs:List Gr)(Jt:Nat)(cr:Bool):(scr gs Jt cr).length<=Jt:=by
 unfold scr;by_cases h:Jt<=(U gs)
 .rw[(LA gs cr Jt h).1];exact aI _
 .rw[cy gs cr Jt mD,(LA gs cr (U gs) (aI _)).1];omega
def Oq(h:∀x∈l,x.err=0)(hl:(U l)<=100000):Sy l=0:=by
 unfold Sy;rw[if_neg mD];exact Ol h
def jH{A:List Raw}(hA:∀x∈A,x.err=0)(hl:(U A)<=100000)(p q i j:Nat)(hi:i<5)(hj:j<5)(s:Nat)(x y:Cm)(hx:((JC (A.take p)).Zc i).ZI[s]? = Z x)(hy:((JC (A.take q)).Zc j).ZI[s]? = Z y):x=y:=by
 obtain⟨qJ,jy⟩:=ZP (A.map Raw.ac);obtain⟨C,hC⟩:∃C,C=A.map fun x=>Ti x.data:=⟨_,rfl⟩
 have tq:(U C)<=100000:=by rw[hC,a8];exact hl
 have ok:∀a∈qJ,cI (fun _=>True) C a:=fun a ha=>by
  rw[jy]at ha;obtain⟨z,hz,rfl⟩:=aw.1 ha;obtain⟨_,q2,_,q4,_⟩:=Fi (hA z hz);refine⟨⟨by unfold Raw.ac;simp only;omega,?_⟩,q4.1,fun _ _ _=>trivial⟩;rw[hC];exact aw.2 ⟨z,hz,rfl⟩
 have e:∀p,JC (A.take p)=TG (qJ.take p):=fun p=>by unfold JC;rw[List.map_take,jy]
 rw[e]at hx hy;rcases Nat.le_total p q with h|h
 .exact Fp tq qJ ok p q h i j hi hj s x y hx hy
 .exact (Fp tq qJ ok q p h j i hj hi s y x hy hx).symm
def ZdO{A:List Raw}(hA:∀x∈A,x.err=0)(hl:(U A)<=100000)(i:Nat)(hi:i<5):((JC A).Zc i).ZI.length<=40:=by
 obtain⟨C,hC⟩:∃C,C=A.map fun x=>Ti x.data:=⟨_,rfl⟩
 have tq:(U C)<=100000:=by rw[hC,a8];exact hl
 have:=zD tq (A.map Raw.ac) 0 Ud (Om C) (fun a ha=>by
  obtain⟨z,hz,rfl⟩:=aw.1 ha;obtain⟨_,q2,_,_,_⟩:=Fi (hA z hz);refine⟨by unfold Raw.ac;simp only;omega,?_⟩;rw[hC];exact aw.2 ⟨z,hz,rfl⟩)
 exact (this.nd i hi).Kr
def XQ(h0:Hp)(o:Ow)(g:Hp)(v:aK)(l:List Raw):Prop:=
 Kp (fun t=>t=.ZI 100) Nh h0 o g/\∃ys,Y9 ys=l/\Xm o (.ZI 100) 36 5 g v (U ys) (ZT QW ys)/\∀y∈ys,S9 o g y.2 y.1.data
def XQ.nil(h0:Hp):XQ h0 Nh h0 (al am 0 0) []:=⟨Kp.refl (RS h0) _,[],rfl,Xm.nil _ _ _ _ _,fun y hy=>by cases hy⟩
def XQ.ZN{h0:Hp}{o:Ow}{g:Hp}{v:aK}(A:XQ h0 o g v l):∃p c,v=al p (U l) c/\(U l)<=c:=by
 obtain⟨_,ys,hr,O,_⟩:=A;obtain⟨p,c,h,hc⟩:=O.ZN;have:(U ys)=(U l):=by rw[<-hr];unfold Y9;simp
 rw[this]at h hc;exact⟨p,c,h,hc⟩
def XQ.Zo{h0:Hp}{o:Ow}{g g':Hp}{v:aK}(A:XQ h0 o g v l)(b:Zk g.size g g'):XQ h0 o g' v l:=by
 obtain⟨K,ys,hr,O,I⟩:=A;have k:Kp UN o g o g':=ZU K.Yt b;exact⟨K.trans (ZY k),ys,hr,O.keep k (fun q=>q),fun y hy=>(I y hy).keep k⟩
def XQ.done{h0:Hp}{o:Ow}{g:Hp}{v:aK}(A:XQ h0 o g v l):Zk h0.size h0 g/\Pj v/\∃ys,Y9 ys=l/\Ts QW 5 g v ys/\∀y∈ys,S9 Nh g y.2 y.1.data:=by
 obtain⟨p,c,hv,hc⟩:=A.ZN;obtain⟨K,ys,hr,O,I⟩:=A;exact⟨Fj K,by rw[hv];exact hc,ys,hr,⟨O.sl⟩,fun y hy=>⟨⟨(I y hy).1.sl,(I y hy).1.fits,fun b hb=>⟨((I y hy).1.free b hb).1,rfl⟩⟩,(I y hy).2⟩⟩
def Zac:∀(xs:List (Raw × aK)),(∀x∈xs,∃p n c,x.2=al p n c)->(ZT QW xs).all YN=true:=by
 intro xs
 induction xs with
 | nil=>intro _;rfl
 | cons x xs ih=>
  intro h;obtain⟨p,n,c,e⟩:=h x sW;have h2:=ih (fun y hy=>h y (by simp[hy]));rw[show ZT QW (x :: xs)=QW x++ZT QW xs from rfl,List.all_append,h2];unfold QW;rw[e];rfl
section
variable {T:World} {K:aK->Hp->Prop} {ty:TypeId} {cb:Array Bool}
def XQ.Pk{h0:Hp}{o:Ow}{g:Hp}{v:aK}(A:XQ h0 o g v l)(hl:(U l)<=1000000000)(X:Raw)(q:Option Addr)(cq:Nat)(im:S9 o g (al q (U X.data) cq) X.data)(H:∀v' o' g',XQ h0 o' g' v' (l++[X])->Kp Td o g o' g'->K v' g'):Ps ba T .append #[23,23] ty cb [v,al (Z ⟨g.size,0,am⟩) 1 1] K (g.push (a6 #[an aa X.k,an aa X.n,an aa X.a,an aa X.b,al q (U X.data) cq] 36)):=by
 obtain⟨K1,ys,hr,O,I⟩:=A;have yl:(U ys)=(U l):=by rw[<-hr];unfold Y9;simp
 obtain⟨g6,Mh⟩:=ZP (g.push (a6 (Rd X.k X.n X.a X.b (al q (U X.data) cq)).toArray 36):Hp);have k6:Kp UN o g o g6:=by rw[Mh];exact Yv K1.Yt _
 have x6:g6[g.size]? = Z (a6 (Rd X.k X.n X.a X.b (al q (U X.data) cq)).toArray 36):=by rw[Mh];exact Zd
 have src:Sl 5 g6 (al (Z ⟨g.size,0,am⟩) 1 1) 1 (Rd X.k X.n X.a X.b (al q (U X.data) cq)):=⟨_,1,rfl,rfl,fun _=>⟨g.size,0,rfl,fun i hi=>by
  rw[Zn x6,Y7,Nat.zero_add];exact au hi⟩⟩
 have O6:=O.keep k6 (fun q=>q);show Ps ba T .append #[23,23] ty cb [v,al (Z ⟨g.size,0,am⟩) 1 1] K (g.push (a6 (Rd X.k X.n X.a X.b (al q (U X.data) cq)).toArray 36));rw[<-Mh];refine Qg (E:=36) (n:=5) (bytes:=56) (k:=1) vO bR ZfS ZfU rfl ZfT O6 k6.Yt src rfl mD mD ?_;intro v7 o7 g7 O7 k7 _;have k7:Kp (fun u=>u=.ZI 100) o g6 o7 g7:=k7;refine H v7 o7 g7 ⟨(K1.trans (ZY k6)).trans k7,ys++[(X,al q (U X.data) cq)],?_,?_,fun y hy=>?_⟩ (YQ ((ZY k6).trans k7))
 .rw[<-hr];unfold Y9;simp only[a9,List.map_cons,List.map_nil]
 .have e:ZT QW (ys++[(X,Value.slice q (U X.data) cq)])=ZT QW ys++Rd X.k X.n X.a X.b (al q (U X.data) cq):=by rw[YV,WH];rfl
  rw[e,Y];exact O7
 .rcases ak.1 hy with hy|hy
  .exact ((I y hy).keep k6).keep k7
  .rw[aU.1 hy];exact (im.keep k6).keep k7
def XQ.add{h0:Hp}{o:Ow}{g:Hp}{v:aK}(A:XQ h0 o g v l)(hl:(U l)<=1000000000)(k n a b:Int)(H:∀v' o' g',XQ h0 o' g' v' (l++[⟨k,n,a,b,[]⟩])->K v' g'):Ps ba T .append #[23,23] ty cb [v,al (Z ⟨g.size,0,am⟩) 1 1] K (g.push (a6 #[an aa k,an aa n,an aa a,an aa b,al am 0 0] 36)):=
 A.Pk hl ⟨k,n,a,b,[]⟩ am 0 ⟨Im.nil _ 1 _ am,fun x hx=>by cases hx⟩ (fun v' o' g' A' _=>H v' o' g' A')
def XQ.Zad{h0:Hp}{o:Ow}{g:Hp}{v:aK}(A:XQ h0 o g v l)(hl:(U l)<=1000000000){u:aK}{xs:List (Raw × aK)}(hu:Ts QW 5 g u xs)(hx:∀x∈xs,S9 Nh h0 x.2 x.1.data)(CQ:(U xs)<=1000000000)(H:∀v' o' g',XQ h0 o' g' v' (l++Y9 xs)->K v' g'):Ps ba T .append #[23,23] ty cb [v,u] K g:=by
 obtain⟨K1,ys,hr,O,I⟩:=A;have yl:(U ys)=(U l):=by rw[<-hr];unfold Y9;simp
 refine Qg (E:=36) (n:=5) (bytes:=56) (k:=(U xs)) vO bR ZfS ZfU rfl ZfT O K1.Yt hu.sl ?_ mD mD ?_
 .exact Zac xs (fun x hxm=>by
   obtain⟨p,c,e⟩:=(hx x hxm).1.ZN;exact⟨p,_,c,e⟩)
 intro v7 o7 g7 O7 k7 _;have k7:Kp (fun u=>u=.ZI 100) o g o7 g7:=k7;refine H v7 o7 g7 ⟨K1.trans k7,ys++xs,?_,?_,fun y hy=>?_⟩
 .rw[<-hr];unfold Y9;rw[a9]
 .rw[YV,Y];exact O7
 .rcases ak.1 hy with hy|hy
  .exact (I y hy).keep k7
  .exact (hx y hy).keep (K1.trans k7)
end
def Wu(n m:Nd):Prop:=m.up=n.up/\m.me=n.me/\∃e,m.ZI=n.ZI++e
def Wu.refl(n:Nd):Wu n n:=⟨rfl,rfl,[],sW⟩
def Wu.trans{a b c:Nd}(h1:Wu a b)(h2:Wu b c):Wu a c:=by
 obtain⟨u1,m1,e1,l1⟩:=h1;obtain⟨u2,m2,e2,l2⟩:=h2;exact⟨by rw[u2,u1],by rw[m2,m1],e1++e2,by rw[l2,l1,aX]⟩
def Wu.same{n m:Nd}(h1:m.up=n.up)(h2:m.me=n.me)(h3:m.ZI=n.ZI):Wu n m:=⟨h1,h2,[],by rw[h3];simp⟩
def Bi:∀(k:Nat) (n:Nd),Wu n (Yr k n).1:=by
 intro k
 induction k with
 | zero=>intro n;exact .refl n
 | succ k ih=>
  intro n;unfold Yr;split
  .exact .refl n
  .rename_i x _;exact Wu.trans (b:=QS n x) ⟨rfl,rfl,[x],rfl⟩ (ih _)
def Fq(n:Nd)(s:Int)(x:Cm):Wu n (X9 n s x).n:=by
 unfold X9;exact Wu.trans (b:=XV n s x) (.same rfl rfl rfl) (Bi _ _)
def Ml(n:Nd)(l:Yn):Wu n (Xo n l):=by
 unfold Xo;split
 .exact .same rfl rfl rfl
 .exact .refl n
def Zae(n:Nd)(x:Cm):Wu n (add n x):=by
 unfold add;split
 .exact .refl n
 .exact .same rfl rfl rfl
def cK(n:Nd)(l:Yn):Wu n (Zx n l).n:=by
 unfold Zx;split
 .unfold Y3
  repeat' split
  all_goals exact .same rfl rfl rfl
 split
 .unfold Yx;split
  .exact .refl n
  .rename_i r _;split
   .split
    .exact .same rfl rfl rfl
    .exact .refl n
   .split
    .exact .refl n
    .split
     .exact Wu.trans (b:=Ta n r l) (.same rfl rfl rfl) (Fq _ _ _)
     .exact .same rfl rfl rfl
 split
 .unfold asked
  repeat' split
  all_goals exact .same rfl rfl rfl
 split
 .exact Zae n _
 split
 .unfold JY;split
  .exact Ml n l
  .exact Ml n l
 split
 .exact Fq n _ _
 .exact Ml n l
def Fr:∀(k:List Yn) (n:Nd),Wu n (Zy n k).n:=by
 intro k
 induction k with
 | nil=>intro n;unfold Zy;exact .same rfl rfl rfl
 | cons l k ih=>
  intro n;unfold Zy;split
  .exact .same rfl rfl rfl
  .exact Wu.trans (b:={ n with Zf:=k }) (.same rfl rfl rfl) (Wu.trans (cK _ l) (ih _))
def rn(n:Nd)(r:XM):Wu n (Jf n r).n:=by
 unfold Jf;split
 .split
  .exact .refl n
  .exact .same rfl rfl rfl
 .split
  .exact .refl n
  .exact .same rfl rfl rfl
def jI(n:Nd):Wu n (Zo n):=by
 unfold Zo;split
 .split
  .exact .same rfl rfl rfl
  .exact .refl n
 .exact .refl n
def jJ(n:Nd):Wu n (Z1 n).n:=by
 unfold Z1;split
 .exact rn _ _
 .split
  .exact .refl n
  .exact .refl n
def rq(n:Nd):Wu n (YH n).n:=by
 have h:=Wu.trans (jI n) (jJ (Zo n));unfold YH;split
 .exact h
 .exact h.trans (.same rfl rfl rfl)
def cL(n:Nd)(p:Ny):Wu n (Yp (ZJ n) p).n:=by
 cases p<;>exact .same rfl rfl rfl
def OX(n:Nd):Wu n (step n).n:=by
 unfold step;split
 .split
  .exact cL n _
  .split
   .exact Fr _ n
   .exact (Fr _ n).trans (rq _)
 .exact .refl n
def DK(w:Wd):Prop:=∀i,(w.Zc i).up=false->(w.Zc i).ZI=[]
def Still(n m:Nd):Prop:=m.up=n.up/\m.me=n.me/\m.ZI=n.ZI
def Still.refl(n:Nd):Still n n:=⟨rfl,rfl,rfl⟩
def Still.trans{a b c:Nd}(h1:Still a b)(h2:Still b c):Still a c:=⟨by rw[h2.1,h1.1],by rw[h2.2.1,h1.2.1],by rw[h2.2.2,h1.2.2]⟩
def Mm(w:Wd)(l:Yn)(i:Nat):Still (w.Zc i) ((JP w l).Zc i):=by
 unfold JP;split
 .unfold Wd.set;by_cases e:i=l.to.toNat
  .simp only[if_pos e];rw[e];exact⟨rfl,rfl,rfl⟩
  .simp only[if_neg e];exact .refl _
 .exact .refl _
def cM:∀(ls:List Yn) (w:Wd) (i:Nat),Still (w.Zc i) ((ls.foldl JP w).Zc i):=by
 intro ls
 induction ls with
 | nil=>intro w i;exact .refl _
 | cons l ls ih=>intro w i;exact Still.trans (Mm w l i) (ih _ i)
def rs(w:Wd)(l:Yn):(JP w l).ZG=w.ZG/\(JP w l).YA=w.YA/\(JP w l).Zm=w.Zm:=by
 unfold JP;split
 .exact⟨rfl,rfl,rfl⟩
 .exact⟨rfl,rfl,rfl⟩
def Fs:∀(ls:List Yn) (w:Wd),(ls.foldl JP w).ZG=w.ZG/\(ls.foldl JP w).YA=w.YA/\(ls.foldl JP w).Zm=w.Zm:=by
 intro ls
 induction ls with
 | nil=>intro w;exact⟨rfl,rfl,rfl⟩
 | cons l ls ih=>
  intro w;obtain⟨h1,h2,h3⟩:=ih (JP w l);obtain⟨k1,k2,k3⟩:=rs w l;exact⟨by rw[a3,h1,k1],by rw[a3,h2,k2],by rw[a3,h3,k3]⟩
def LC(w:Wd)(k:Nat)(n:Nd)(i:Nat):((w.set k n).Zc i)=if i=k then n else w.Zc i:=rfl
def Zaf(w:Wd)(k:Nat)(o:Out)(i:Nat):((w.out k o).Zc i)=if i=k then o.n else w.Zc i:=rfl
def Bj(w:Wd)(k:Nat)(data:List Nat)(i:Nat):Still (w.Zc i) ((Wq w k data).Zc i):=by
 unfold Wq;split
 .split
  .exact .refl _
  .split
   .exact .refl _
   .rw[LC];by_cases e:i=k
    .rw[if_pos e,e];unfold Of add
     repeat' split
     all_goals exact⟨rfl,rfl,rfl⟩
    .rw[if_neg e];exact .refl _
 .exact .refl _
def jK(w:Wd)(k:Nat)(c s:Bool)(i:Nat):Still (w.Zc i) ((pick w k c s).Zc i):=by
 unfold pick;split
 .exact .refl _
 .split
  .split
   .exact Mm _ _ _
   .exact Mm { w with Zm:=_ } _ _
  .split
   .exact .refl _
   .exact .refl _
def Zag(w:Wd)(a:Ac)(i:Nat):
  (a.ZH=8/\a.ZX=i/\(act w a).Zc i=Yo i (w.Zc i) a.keep) \/
  (¬(1<=a.ZH/\a.ZH<=8)/\a.ZX=i/\(act w a).Zc i=started i (w.Zc i)) \/
  (a.ZH=3/\a.ZX=i/\(w.Zc i).up=true/\Wu (w.Zc i) ((act w a).Zc i)) \/
  Still (w.Zc i) ((act w a).Zc i):=by
 unfold act;split
 .exact .inr (.inr (.inr (Bj _ _ _ _)))
 split
 .refine .inr (.inr (.inr ?_));rw[LC];by_cases e:i=a.ZX
  .rw[if_pos e,e];unfold lead;split
   .exact .refl _
   .exact⟨rfl,rfl,rfl⟩
  .rw[if_neg e];exact .refl _
 split
 .rename_i k;rw[Zaf];by_cases e:i=a.ZX
  .rw[if_pos e,e]
   cases hu:(w.Zc a.ZX).up with
   | true=>exact .inr (.inr (.inl ⟨k,rfl,rfl,OX _⟩))
   | false=>
    have:(step (w.Zc a.ZX)).n=w.Zc a.ZX:=by unfold step;rw[if_neg (by rw[hu];decide)]
    rw[this];exact .inr (.inr (.inr (.refl _)))
  .rw[if_neg e];exact .inr (.inr (.inr (.refl _)))
 split
 .exact .inr (.inr (.inr (jK _ _ _ _ _)))
 split
 .exact .inr (.inr (.inr (cM w.Zm { w with Zm:=[] } i)))
 split
 .rename_i k;rw[LC];by_cases e:i=a.ZX
  .rw[if_pos e,e];exact .inl ⟨k,rfl,rfl⟩
  .rw[if_neg e];exact .inr (.inr (.inr (.refl _)))
 .rename_i k1 k2 k3 k4 k5 k6;rw[LC];by_cases e:i=a.ZX
  .rw[if_pos e,e];exact .inr (.inl ⟨mD,rfl,rfl⟩)
  .rw[if_neg e];exact .inr (.inr (.inr (.refl _)))
def cN(i:Nat)(n:Nd)(k:Int):(n.up=true/\(Yo i n k).up=false/\(Yo i n k).ZI=[])\/(n.up=false/\Yo i n k=n):=by
 unfold Yo
 cases hu:n.up with
 | true=>
  rw[if_pos rfl];refine .inl ⟨rfl,?_⟩;split<;>exact⟨rfl,rfl⟩
 | false=>exact .inr ⟨rfl,sW⟩
def cO(i:Nat)(n:Nd):(n.up=true/\started i n=n)\/(n.up=false/\(started i n).up=true/\(started i n).ZI=[]):=by
 unfold started
 cases hu:n.up with
 | true=>exact .inl ⟨rfl,sW⟩
 | false=>exact .inr ⟨rfl,rfl,rfl⟩
def Zah{w:Wd}(h:DK w)(a:Ac):DK (act w a):=fun i hi=>by
 rcases Zag w a i with⟨_,_,e⟩|⟨_,_,e⟩|⟨_,_,q,e1,_⟩|⟨e1,_,e2⟩
 .rw[e]at hi ⊢;rcases cN i (w.Zc i) a.keep with⟨_,_,q⟩|⟨q1,q⟩
  .exact q
  .rw[q];exact h i q1
 .rw[e]at hi ⊢;rcases cO i (w.Zc i) with⟨q1,q⟩|⟨_,q,_⟩
  .rw[q]at hi;rw[q1]at hi;cases hi
  .rw[q]at hi;cases hi
 .rw[e1,q]at hi;cases hi
 .rw[e2];exact h i (by rw[<-e1];exact hi)
def cQ:DK Ud:=fun i hi=>by cases hi
def Zai(l:List Ac):DK (TG l):=by
 have:∀(l:List Ac) (w:Wd),DK w->DK (l.foldl act w):=by
  intro l
  induction l with
  | nil=>intro w h;exact h
  | cons a l ih=>intro w h;exact ih _ (Zah h a)
 exact this l _ cQ
def Two(x y:Nat)(k:Int):Prop:=k=x\/k=y
section
variable {x y:Nat} {n:Nd}
def Fu(n:Nd):(YH n).n.Zf=n.Zf:=by
 have h1:(Zo n).Zf=n.Zf:=by
  unfold Zo
  repeat' split
  all_goals rfl
 have h2:∀m:Nd,(Z1 m).n.Zf=m.Zf:=fun m=>by
  unfold Z1 Jf
  repeat' split
  all_goals rfl
 unfold YH;split
 .rw[h2,h1]
 .show (Z1 (Zo n)).n.Zf=n.Zf;rw[h2,h1]
def VH(n:Nd)(p:Ny):(Yp (ZJ n) p).n.Zf=n.Zf:=by cases p<;>rfl
end
section
variable {x y:Nat} {w:Wd}
end
def jL{tc tr tu k c s n v now Bl:Int}(h:Pf tc tr tu k c s n v Bl=0)(h0:0<=now)(hn:now<=Bl):Pf tc tr tu k c s n v now=0:=by
 unfold Pf at *;by_cases c1:JW tc tr tu≠0
 .rw[if_pos c1]at h;exact (c1 h).elim
 rw[if_neg c1]at h ⊢;by_cases c2:XB k c s n v≠0
 .rw[if_pos c2]at h;exact (c2 h).elim
 rw[if_neg c2]at h ⊢;by_cases c3:¬Es k.toNat tr.toNat\/tc≠c
 .rw[if_pos c3]at h;cases h
 rw[if_neg c3]at h ⊢;by_cases c4:Bl<0\/tu<Bl
 .rw[if_pos c4]at h;cases h
 rw[if_neg mD]
structure ZvM(rc:List Nat):Prop where
 len:(U rc)≠0
 key:Qm (rc.getD 0 0:Nat)=0
 take:VD (WO (rc.getD 0 0)) 0 0 Ql (rc.drop 1)=0
 plain:(Jl rc).length=42
 prv:QQ Sr ((Jl rc).take 22)=0
 dec:Qx ((Jl rc).drop 22)=0
 Zr:¬(Jd ((Jl rc).drop 22) 0≠0/\Jd ((Jl rc).drop 22) 1≠(rc.getD 0 0:Nat))
def Bm(rc:List Nat)(now:Int):Xg rc now=0↔ZvM rc/\iP (Jl rc) now=0:=by
 unfold Xg Dp be aZ aY kV
 constructor
 .intro h;by_cases c1:(U rc)=0
  .rw[if_pos c1]at h;cases h
  rw[if_neg c1]at h;by_cases c2:Qm (rc.getD 0 0:Nat)≠0
  .rw[if_pos c2]at h;exact (c2 h).elim
  rw[if_neg c2]at h;by_cases c3:VD (WO (rc.getD 0 0)) 0 0 Ql (rc.drop 1)≠0
  .rw[if_pos c3]at h;exact (c3 h).elim
  rw[if_neg c3]at h;by_cases c4:(Jl rc).length≠42
  .rw[if_pos c4]at h;cases h
  rw[if_neg c4]at h;by_cases c5:QQ Sr ((Jl rc).take 22)≠0
  .rw[if_pos c5]at h;exact (c5 h).elim
  rw[if_neg c5]at h;by_cases c6:Qx ((Jl rc).drop 22)≠0
  .rw[if_pos c6]at h;exact (c6 h).elim
  rw[if_neg c6]at h;by_cases c7:Jd ((Jl rc).drop 22) 0≠0/\Jd ((Jl rc).drop 22) 1≠(rc.getD 0 0:Nat)
  .rw[if_pos c7]at h;cases h
  rw[if_neg c7]at h;exact⟨⟨c1,mD,mD,mD,mD,mD,c7⟩,h⟩
 .rintro⟨o,h⟩;rw[if_neg o.len,if_neg (fun q=>q o.key),if_neg (fun q=>q o.take),if_neg (fun q=>q o.plain),if_neg (fun q=>q o.prv),if_neg (fun q=>q o.dec),if_neg o.Zr];exact h
def cR{now Bl:Int}(h:Xg d Bl=0)(h0:0<=now)(hn:now<=Bl):Xg d now=0/\J2 d now=J2 d Bl:=by
 have h1:Xg d now=0:=by
  obtain⟨o,a⟩:=(Bm d Bl).1 h;exact (Bm d now).2 ⟨o,jL a h0 hn⟩
 refine⟨h1,?_⟩;unfold J2;rw[if_pos h,if_pos h1]
def J4(n:Nat):Raw:=⟨9,n,0,0,[]⟩
def UH(n:Nat):Raw:=⟨3,n,0,0,[]⟩
def Tm(k:Nat):List Raw:=(cf k).map UH
def YX(k:Nat):List Raw:=(cf k).map J4
def Vj:List Raw:=Tm 5++[Kv]
def J6(k:Nat):List Raw:=(List.replicate k Vj).flatten
def JM(l:List Raw)(many:Nat):List Raw:=(l++YX 5)++J6 many
def cU(k:Nat):Tm (k+1)=Tm k++[UH k]:=by unfold Tm;rw[cd,a9];rfl
def Bn(k:Nat):YX (k+1)=YX k++[J4 k]:=by unfold YX;rw[cd,a9];rfl
def RT(k:Nat):J6 (k+1)=J6 k++Vj:=by
 unfold J6;rw[List.replicate_succ',List.flatten_append];simp
def Fv(k:Nat):(Tm k).length=k:=by unfold Tm;simp
def Ot(k:Nat):(YX k).length=k:=by unfold YX;simp
def Kz(k:Nat):(J6 k).length=6*k:=by
 induction k with
 | zero=>rfl
 | succ k ih=>rw[RT,Y,ih];unfold Vj;rw[Y,Fv];simp;omega
def Sd(l:List Raw)(k:Nat):(JM l k).length=(U l)+5+6*k:=by
 unfold JM;rw[Y,Y,Ot,Kz]
def Mn{x:Raw}(h:x∈YX k):∃n,n<k/\x=J4 n:=by
 unfold YX at h;obtain⟨n,hn,rfl⟩:=aw.1 h;exact⟨n,bc.1 hn,rfl⟩
def DL{x:Raw}(h:x∈Tm k):∃n,n<k/\x=UH n:=by
 unfold Tm at h;obtain⟨n,hn,rfl⟩:=aw.1 h;exact⟨n,bc.1 hn,rfl⟩
def Fw{x:Raw}(h:x∈J6 k):(∃n,n<5/\x=UH n)\/x=Kv:=by
 unfold J6 at h;obtain⟨l,hl,hx⟩:=bo.1 h;rw[(List.mem_replicate.1 hl).2]at hx;unfold Vj at hx;rcases ak.1 hx with hx|hx
 .exact .inl (DL hx)
 .exact .inr (aU.1 hx)
def jM{x:Raw}(h:x∈JM l k):x∈l\/(∃n,n<5/\x=J4 n)\/(∃n,n<5/\x=UH n)\/x=Kv:=by
 unfold JM at h;rcases ak.1 h with h|h
 .rcases ak.1 h with h|h
  .exact .inl h
  .exact .inr (.inl (Mn h))
 .exact .inr (.inr (Fw h))
def DM:(∀n,n<5->(J4 n).err=0)/\(∀n,n<5->(UH n).err=0)/\Kv.err=0:=KC
def Fx(h:∀x∈l,x.err=0)(k:Nat):∀x∈JM l k,x.err=0:=fun x hx=>by
 obtain⟨e1,e2,e3⟩:=DM;rcases jM hx with hx|⟨n,hn,rfl⟩|⟨n,hn,rfl⟩|rfl
 .exact h x hx
 .exact e1 n hn
 .exact e2 n hn
 .exact e3
def ZhE{A:List Raw}(hA:∀x∈A,x.err=0)(hS:∀x∈A,x.k=1->∀now:Nat,Xg x.data now=0->S (J2 x.data now)):
  ∀a∈A.map Raw.ac,cI S (A.map fun x=>Ti x.data) a:=fun a ha=>by
 obtain⟨z,hz,rfl⟩:=aw.1 ha;obtain⟨_,q2,_,q4,_⟩:=Fi (hA z hz);exact⟨⟨by unfold Raw.ac;simp only;omega,aw.2 ⟨z,hz,rfl⟩⟩,q4.1,fun now hk h=>hS z hz hk now h⟩
def ZdP{rc:List Nat}{now:Int}(h:Xg rc now=0):(J2 rc now).err=0:=by
 obtain⟨o,_⟩:=(Bm rc now).1 h;have hd:=o.dec;unfold J2;rw[if_pos h];unfold Un.err;simp only;unfold Qx at hd;rw[if_pos (by rw[bl,o.plain])]at hd;exact hd
def ZdQ{α β:Type}{R:α->β->Prop}{l:List α}{k:List β}(s:AE R l k):∀(i:Nat) (h1:i<(U l)) (h2:i<(U k)),R l[i] k[i]:=by
 induction s with
 | nil=>intro i h1;cases h1
 | cons a _ ih=>
  intro i h1 h2
  cases i with
  | zero=>exact a
  | succ i=>exact ih i (by simpa using h1) (by simpa using h2)
def Zmt(w:Wd):List (List Cm):=[(w.Zc 0).ZI,(w.Zc 1).ZI,(w.Zc 2).ZI,(w.Zc 3).ZI,(w.Zc 4).ZI]
def ru(w:Wd)(i:Nat)(hi:i<5):(Zmt w)[i]'hi=(w.Zc i).ZI:=by
 match i,hi with
 | 0,_=>rfl
 | 1,_=>rfl
 | 2,_=>rfl
 | 3,_=>rfl
 | 4,_=>rfl
def bX.ZI{h:Hp}{R:List aK}{w:Wd}{lv tv:aK}{vs:List aK}(s:bX h R w lv tv vs):∃b o c,lv=al (Z ⟨b,o,am⟩) 5 c/\b<h.size/\∀n,n<5->∃x,hc h ⟨b,o+n,am⟩=Z x/\Ts Un.C 5 h x (w.Zc n).ZI:=by
 have vl:(U vs)=5:=lW s.each;obtain⟨p,c,rfl,XH⟩:=s.Zmg.open (n:=1) (enc:=fun v=>[v]) (fun _=>rfl) (show (1:Nat)≠0 by decide);obtain⟨b,o,rfl,hb,hh⟩:=XH (by intro e;rw[e]at vl;cases vl);refine⟨b,o,c,by rw[vl],hb,fun n hn=>⟨vs[n],?_,?_⟩⟩
 .have:=hh n mD;have:=this.hc (i:=0) rfl;rw[Nat.mul_one]at this;exact this
 .have:=ZdQ s.each n mD hn;rw[show ([(w.Zc 0).ZI,(w.Zc 1).ZI,(w.Zc 2).ZI,(w.Zc 3).ZI,(w.Zc 4).ZI]:List (List Cm))[n]'hn=(w.Zc n).ZI from ru w n hn]at this;exact this
set_option maxHeartbeats 4000000 in
def Fy(T:World)(h:Hp)(v:aK)(xs:List (Raw × aK))(many:Nat)(hv:Ts QW 5 h v xs)(hx:∀x∈xs,S9 Nh h x.2 x.1.data)(CQ:(U xs)<=1000000)(hm:many<=1000000):
  Zg ba T 13 #[v,an aa many] h fun v' h'=>∃o,XQ h o h' v' (JM (Y9 xs) many):=by
 have rl:(Y9 xs).length=(U xs):=by unfold Y9;simp
 refine Zg.XK [_,_] Tryz.func13 ?_;simp only[go_sem];refine (XQ.nil h).Zad sW hv hx mD ?_;intro v1 o1 g1 A1;rw[bg]at A1;simp only[go_sem];refine VS.Yq (fun F g=>F 1=an aa many/\∃(n:Nat) (o:Ow),n<=5/\F 6=an aa n/\XQ h o g (F 5) (Y9 xs++YX n))
  (fun F _=>5-(vi (F 6)).toNat) rfl ⟨rfl,0,o1,mD,rfl,by rw[show YX 0=[] from rfl,bh];exact A1⟩ ?_
 rintro F2 g2 ⟨f1,n,o2,hn,f6,A2⟩;obtain⟨p2,c2,f5,_⟩:=A2.ZN;by_cases ZV:n<5
 .have Z4:(n:Int)<5:=mD;rw[f5]at A2;simp only[go_sem,f1,f5,f6,Z4];refine A2.add (by rw[Y,Ot];omega) 9 n 0 0 ?_;intro v3 o3 g3 A3;simp only[go_sem,f6];unfold XI;refine⟨⟨f1,n+1,o3,ZV,rfl,?_⟩,?_⟩
  .rw[Bn,<-aX];exact A3
  .simp only[vi,Zt,↓reduceIte,f6];omega
 have Xw:¬(n:Int)<5:=mD;obtain rfl:n=5:=mD;simp only[go_sem,f1,f6];refine VS.Yq (fun F g=>F 1=an aa many/\∃(i:Nat) (o:Ow),i<=many/\F 7=an aa i/\XQ h o g (F 5) ((Y9 xs++YX 5)++J6 i))
  (fun F _=>many-(vi (F 7)).toNat) rfl ⟨f1,0,o2,mD,rfl,by rw[show J6 0=[] from rfl,bh];exact A2⟩ ?_
 clear f1 f5 f6 A2;rintro F3 g3 ⟨f1,i,o3,hi,f7,A3⟩;by_cases ZV:i<many
 .have Z4:(i:Int)<many:=mD;simp only[go_sem,f1,f7,Z4];refine VS.Yq (fun F g=>(F 1=an aa many/\F 7=an aa i)/\∃(n:Nat) (o:Ow),n<=5/\F 8=an aa n/\XQ h o g (F 5) (((Y9 xs++YX 5)++J6 i)++Tm n))
   (fun F _=>5-(vi (F 8)).toNat) rfl ⟨⟨f1,f7⟩,0,o3,mD,rfl,by rw[show Tm 0=[] from rfl,bh];exact A3⟩ ?_
  clear f1 f7 A3;rintro F4 g4 ⟨⟨f1,f7⟩,n,o4,hn,f8,A4⟩;obtain⟨p4,c4,f5,_⟩:=A4.ZN;rw[f5]at A4;have hlen:(((Y9 xs++YX 5)++J6 i)++Tm n).length<=100000000:=by
   rw[Y,Y,Y,Ot,Kz,Fv];omega
  by_cases hn5:n<5
  .have Zmu:(n:Int)<5:=mD;simp only[go_sem,f1,f5,f7,f8,Zmu];refine A4.add mD 3 n 0 0 ?_;intro v5 o5 g5 A5;simp only[go_sem,f8];unfold XI;refine⟨⟨⟨f1,f7⟩,n+1,o5,hn5,rfl,?_⟩,?_⟩
   .rw[cU,<-aX];exact A5
   .simp only[vi,Zt,↓reduceIte,f8];omega
  .have Zmu:¬(n:Int)<5:=mD;obtain rfl:n=5:=mD;simp only[go_sem,f1,f5,f7,f8];refine A4.add mD 7 0 0 0 ?_;intro v5 o5 g5 A5;simp only[go_sem,f7];unfold XI;refine⟨⟨f1,i+1,o5,ZV,rfl,?_⟩,?_⟩
   .rw[RT];unfold Vj;rw[<-aX,<-aX];exact A5
   .simp only[vi,Zt,↓reduceIte,f7];omega
 .have Xw:¬(i:Int)<many:=mD;obtain rfl:i=many:=mD;obtain⟨p3,c3,f5,_⟩:=A3.ZN;simp only[go_sem,f1,f5,f7,Xw];rw[f5]at A3;exact⟨_,A3⟩
def Tn(w:Wd):Nat->List Cm
 | 0=>[]
 | n+1=>if (Tn w n).length<(w.Zc n).ZI.length then (w.Zc n).ZI else Tn w n
def rD(w:Wd):List Cm:=Tn w 5
def rE(w:Wd):∀n,Tn w n=[]\/∃i,i<n/\Tn w n=(w.Zc i).ZI:=by
 intro n
 induction n with
 | zero=>exact .inl rfl
 | succ n ih=>
  unfold Tn;split
  .exact .inr ⟨n,mD,rfl⟩
  .rcases ih with h|⟨i,hi,h⟩
   .exact .inl h
   .exact .inr ⟨i,mD,h⟩
def LD(w:Wd):rD w=[]\/∃i,i<5/\rD w=(w.Zc i).ZI:=rE w 5
def Zaj(w:Wd):∀n i,i<n->(w.Zc i).ZI.length<=(Tn w n).length:=by
 intro n
 induction n with
 | zero=>intro i h;omega
 | succ n ih=>
  intro i hi;unfold Tn;split
  .rename_i q;by_cases e:i=n
   .rw[e];exact aI _
   .have:=ih i mD;omega
  .rename_i q;by_cases e:i=n
   .rw[e];omega
   .exact ih i mD
structure ZvN(R:List aK):Prop where
 len:(U R)=13
 one:R.all YN=true
 put:Xd [Value.int aa 0,a7 false,a7 false,a7 false,a7 false,a7 false,al am 0 0,an aa 0,an aa 0,an aa 0,an aa 0,an aa 0,al am 0 0] 0 R=R
 le:(U R)<=13
 take:R.take 13=R
def bX.ok{h:Hp}{w:Wd}{lv tv:aK}{vs:List aK}(ra:bX h (bW w lv tv) w lv tv vs):ZvN (bW w lv tv)/\(∃b o c,lv=al (Z ⟨b,o,am⟩) 5 c)/\∃p c,tv=al p w.ZG.length c:=by
 obtain⟨b,o,c,hl,_,_⟩:=ra.ZI;obtain⟨pt,ct,ht,_⟩:=ra.ZG.open (n:=5) (enc:=GQ) (fun _=>rfl) (show (5:Nat)≠0 by decide);subst hl;subst ht;exact⟨⟨rfl,rfl,Yb rfl,aI 13,rfl⟩,⟨b,o,c,rfl⟩,pt,ct,rfl⟩
def Mo(T:World)(h:Hp)(w:Wd)(lv tv:aK)(vs:List aK)(ra:bX h (bW w lv tv) w lv tv vs):
  Zg ba T 8 #[.agg (bW w lv tv).toArray] h fun v' h'=>Ts Un.C 5 h' v' (rD w)/\Zk h.size h h':=by
 obtain⟨b,o,c,rfl,hb,hx⟩:=ra.ZI;obtain⟨R,hR⟩:=ZP (bW w (al (Z ⟨b,o,am⟩) 5 c) tv);rw[<-hR];refine Zg.XK [_] Tryz.func8 ?_;obtain⟨h1,Xp⟩:=ZP (h.push (a6 R.toArray 30):Hp);have e1:=Xp.symm;have b1:Zk h.size h h1:=by rw[Xp];exact (Zk.refl _ _).add _
 have y1:h1[h.size]? = Z (a6 R.toArray 30):=by rw[Xp];exact Zd
 have r6:hc h1 ⟨h.size,6,am⟩=Z (al (Z ⟨b,o,am⟩) 5 c):=by rw[Zn y1,hR];rfl
 have ly:=Za y1;simp only[go_sem,e1];refine VS.Yq (fun F g=>g=h1/\F 1=.pointer (Z ⟨h.size,0,am⟩)/\∃n:Nat,n<=5/\F 4=an aa n/\Ts Un.C 5 h1 (F 3) (Tn w n))
  (fun F _=>5-(vi (F 4)).toNat) rfl ⟨rfl,rfl,0,mD,rfl,⟨(UK.nil 0 0 5 h1).sl⟩⟩ ?_
 rintro F2 g2 ⟨rfl,f1,n,hn,f4,t3⟩;obtain⟨p3,c3,f3,_⟩:=Jy t3;by_cases ZV:n<5
 .have Z4:(n:Int)<5:=mD;obtain⟨x,rx,tx⟩:=hx n ZV;obtain⟨px,cx,rfl,_⟩:=Jy tx;have rx2:hc g2 ⟨b,o+n,am⟩=Z (al px (w.Zc n).ZI.length cx):=by rw[b1.hc (by exact hb)];exact rx
  have tx2:=tx.YJ b1;by_cases hgt:((w.Zc n).ZI.length:Int)>(Tn w n).length
  .simp only[go_sem,f1,f3,f4,r6,Z4,rx2,hgt];unfold XI;refine⟨⟨rfl,f1,n+1,ZV,rfl,?_⟩,?_⟩
   .have e:Tn w (n+1)=(w.Zc n).ZI:=by rw[Tn,if_pos mD]
    rw[e];exact tx2
   .simp only[vi,Zt,↓reduceIte,f4];omega
  .simp only[go_sem,f1,f3,f4,r6,Z4,rx2,hgt];unfold XI;refine⟨⟨rfl,f1,n+1,ZV,rfl,?_⟩,?_⟩
   .have e:Tn w (n+1)=Tn w n:=by rw[Tn,if_neg mD]
    rw[e];exact t3
   .simp only[vi,Zt,↓reduceIte,f4];omega
 .have Xw:¬(n:Int)<5:=mD;obtain rfl:n=5:=mD;rw[f3]at t3;simp only[go_sem,f1,f3,f4,r6];exact⟨t3,b1⟩
def QK(n:Nat):Raw:=⟨2,n,0,0,[]⟩
def cV(k:Int):Prop:=k=1\/k=2\/k=6\/k=8
instance (k:Int):Decidable (cV k):=by unfold cV;infer_instance
def manyN(l:List Raw):Nat->Nat
 | 0=>100
 | i+1=>match l[i]? with
  | some x=>if cV x.k then manyN l i+20 else manyN l i
  | none=>manyN l i
def cW(l:List Raw):∀i,manyN l i<=100+20*i:=by
 intro i
 induction i with
 | zero=>exact aI _
 | succ i ih=>
  unfold manyN
  cases l[i]? with
  | none=>simp only;omega
  | some x=>simp only;split<;>omega
def To(l:List Raw)(n many:Nat):List Raw:=JM (JM l 0++[QK n]) many
def Vk(l:List Raw)(n many:Nat):Nat->List Raw
 | 0=>l
 | k+1=>To (Vk l n many k) n many
def X3(l:List Raw)(n:Nat):List Raw:=Vk l n (manyN l (U l)) 2
def rF(l:List Raw)(n many:Nat):(To l n many).length=(U l)+11+6*many:=by
 unfold To;rw[Sd,Y,Sd,bx]
def Fz(l:List Raw)(n many k:Nat):(Vk l n many k).length=(U l)+k*(11+6*many):=by
 induction k with
 | zero=>simp[Vk]
 | succ k ih=>rw[Vk,rF,ih,Nat.add_mul k 1 (11+6*many),Nat.one_mul];omega
def mi{n:Nat}(h:n<5):(QK n).err=0:=by
 have:∀n<5,(QK n).err=0:=KC;exact this n h
def rG(h:∀x∈l,x.err=0){n:Nat}(hn:n<5)(many k:Nat):∀x∈Vk l n many k,x.err=0:=by
 induction k with
 | zero=>exact h
 | succ k ih=>
  unfold Vk To;refine Fx (fun x hx=>?_) many;rcases ak.1 hx with hx|hx
  .exact Fx ih 0 x hx
  .rw[aU.1 hx];exact mi hn
def Iy(h:∀x∈l,x.err=0){n:Nat}(hn:n<5):∀x∈X3 l n,x.err=0:=rG h hn _ 2
def Iz{n b:Nat}(h:(U l)<=b):(X3 l n).length<=b+2*(11+6*(100+20*b)):=by
 unfold X3;rw[Fz];have:=cW l (U l);omega
set_option maxHeartbeats 4000000 in
def cX(T:World)(h:Hp)(v:aK)(xs:List (Raw × aK))(n:Nat)(hn:n<5)(hv:Ts QW 5 h v xs)(hx:∀x∈xs,S9 Nh h x.2 x.1.data)(CQ:(U xs)<=3000):
  Zg ba T 7 #[v,an aa n] h fun v' h'=>∃hk o,Zk h.size h hk/\XQ hk o h' v' (X3 (Y9 xs) n):=by
 have rl:(Y9 xs).length=(U xs):=by unfold Y9;simp
 obtain⟨p,c,rfl,XH⟩:=hv.open Fg KC;refine Zg.XK [_,_] Tryz.func7 ?_;simp only[go_sem];refine VS.Yq (fun F g=>g=h/\F 0=al p (U xs) c/\F 1=an aa n/\∃i:Nat,i<=(U xs)/\F 6=an aa i/\F 5=an aa (manyN (Y9 xs) i))
  (fun F _=>(U xs)-(vi (F 6)).toNat) rfl ⟨rfl,rfl,rfl,0,b7 _,rfl,rfl⟩ ?_
 rintro F g ⟨rfl,f0,f1,i,hi,f6,f5⟩;have kT:=cW (Y9 xs) i;obtain⟨M,hM⟩:=ZP (manyN (Y9 xs) i);rw[<-hM]at f5 kT;by_cases ZV:i<(U xs)
 .have Z4:(i:Int)<(U xs):=mD;obtain⟨bs,os,rfl,sU,Lv⟩:=XH (by intro e;rw[e]at ZV;simp at ZV);obtain⟨x,OM⟩:=ZP (xs[i]);have ca:XX g bs (os+i*5) (QW x):=by rw[OM];exact Lv i ZV
  have r0:hc g ⟨bs,os+i*5,am⟩=Z (an aa x.1.k):=ca.hc (i:=0) rfl;have hxr:(Y9 xs)[i]? = Z x.1:=by unfold Y9;rw[List.getElem?_map,au ZV,<-OM];rfl
  have Zak:cV x.1.k->manyN (Y9 xs) (i+1)=M+20:=fun q=>by rw[manyN,hxr];simp only;rw[if_pos q,hM]
  have tX:¬cV x.1.k->manyN (Y9 xs) (i+1)=M:=fun q=>by rw[manyN,hxr];simp only;rw[if_neg q,hM]
  obtain⟨M',hM'⟩:=ZP (manyN (Y9 xs) (i+1));rw[<-hM']at Zak tX;by_cases q1:x.1.k=1
  .have hb:=Zak (.inl q1);simp only[go_sem,f0,f1,f5,f6,Z4,r0,q1];unfold XI;refine⟨⟨rfl,f0,f1,i+1,ZV,rfl,?_⟩,?_⟩
   .rw[<-hM',hb];rfl
   .simp only[vi,Zt,↓reduceIte,f6];omega
  by_cases q2:x.1.k=2
  .have hb:=Zak (.inr (.inl q2));simp only[go_sem,f0,f1,f5,f6,Z4,r0,q2];unfold XI;refine⟨⟨rfl,f0,f1,i+1,ZV,rfl,?_⟩,?_⟩
   .rw[<-hM',hb];rfl
   .simp only[vi,Zt,↓reduceIte,f6];omega
  by_cases q3:x.1.k=6
  .have hb:=Zak (.inr (.inr (.inl q3)));simp only[go_sem,f0,f1,f5,f6,Z4,r0,q3];unfold XI;refine⟨⟨rfl,f0,f1,i+1,ZV,rfl,?_⟩,?_⟩
   .rw[<-hM',hb];rfl
   .simp only[vi,Zt,↓reduceIte,f6];omega
  by_cases q4:x.1.k=8
  .have hb:=Zak (.inr (.inr (.inr q4)));simp only[go_sem,f0,f1,f5,f6,Z4,r0,q4];unfold XI;refine⟨⟨rfl,f0,f1,i+1,ZV,rfl,?_⟩,?_⟩
   .rw[<-hM',hb];rfl
   .simp only[vi,Zt,↓reduceIte,f6];omega
  .have hb:=tX (by rintro (q|q|q|q)<;>contradiction);simp only[go_sem,f0,f1,f5,f6,Z4,r0,q1,q2,q3,q4];unfold XI;refine⟨⟨rfl,f0,f1,i+1,ZV,rfl,?_⟩,?_⟩
   .rw[<-hM',hb];exact f5
   .simp only[vi,Zt,↓reduceIte,f6];omega
 have Xw:¬(i:Int)<(U xs):=mD;obtain rfl:i=(U xs):=mD;have hMM:X3 (Y9 xs) n=Vk (Y9 xs) n M 2:=by unfold X3;rw[rl,hM]
 rw[hMM];clear hM;simp only[go_sem,f0,f6,Xw];refine (XQ.nil g).Zad sW hv hx mD ?_;intro v1 o1 g1 A1;rw[bg]at A1;simp only[go_sem,f1,f5];refine VS.Yq (fun F2 g2=>F2 1=an aa n/\F2 5=an aa M/\∃k:Nat,k<=2/\F2 8=an aa k/\∃hk o,Zk g.size g hk/\XQ hk o g2 (F2 7) (Vk (Y9 xs) n M k))
  (fun F2 _=>2-(vi (F2 8)).toNat) rfl ⟨f1,f5,0,mD,rfl,g,o1,Zk.refl _ _,A1⟩ ?_
 clear f0 f1 f5 f6 A1;rintro F2 g2 ⟨f1,f5,k,hk,f8,hk0,ok,Bk,A2⟩;obtain⟨B2',C2,ys2,hr2,t2,i2⟩:=A2.done;have B2:Zk g.size g g2:=Bk.trans (B2'.mono Bk.size);have yl:(U ys2)=(U xs)+k*(11+6*M):=by
  have:=congrArg U hr2;rw[Fz,rl]at this;rw[<-this];unfold Y9;simp
 have hkm:k*(11+6*M)<=2*(11+6*M):=Nat.mul_le_mul_right _ hk;obtain⟨p2,c2,f7,_⟩:=t2.open Fg KC;by_cases hk2:k<2
 .have ZhF:(k:Int)<2:=mD;rw[f7]at t2;simp only[go_sem,f1,f5,f7,f8,ZhF];refine (Fy T g2 _ ys2 0 t2 i2 mD mD).use ?_;rintro v3 g3 ⟨o3,A3⟩;obtain⟨p3,c3,rfl,_⟩:=A3.ZN;have B3:=A3.done.1;simp only[go_sem,f1,f5,f8];refine A3.add (by rw[Sd];unfold Y9;rw[a8];omega) 2 n 0 0 ?_;intro v4 o4 g4 A4;obtain⟨B4,C4,ys4,hr4,t4,i4⟩:=A4.done;have yl4:(U ys4)=(U ys2)+6:=by
   have:=congrArg U hr4;rw[Y,Sd]at this;unfold Y9 at this;simp only[a8,bx]at this;omega
  simp only[go_sem,f1,f5,f8];refine (Fy T g4 _ ys4 M t4 i4 mD mD).use ?_;rintro v5 g5 ⟨o5,A5⟩;rw[hr4,hr2]at A5;simp only[go_sem,f8];unfold XI;refine⟨⟨f1,f5,k+1,hk2,rfl,g4,o5,B2.trans (B4.mono B2.size),A5⟩,?_⟩;simp only[vi,Zt,↓reduceIte,f8];omega
 .have ZhF:¬(k:Int)<2:=mD;obtain rfl:k=2:=mD;rw[f7]at A2;simp only[go_sem,f7,f8,ZhF];exact⟨hk0,ok,Bk,A2⟩
def cY(T:World)(h:Hp)(v:aK)(xs:List (Raw × aK))(n:Nat)(hn:n<5)(hv:Ts QW 5 h v xs)(hx:∀x∈xs,S9 Nh h x.2 x.1.data)(CQ:xs.length<=3000):
  Zg ba T 7 #[v,.int .i64 n] h fun v' h'=>Zk h.size h h'/\Pj v'/\∃ys,Y9 ys=X3 (Y9 xs) n/\Ts QW 5 h' v' ys/\∀y∈ys,S9 Nh h' y.2 y.1.data:=by
 refine (cX T h v xs n hn hv hx CQ).mono ?_;rintro v' h' ⟨hk,o,B,A⟩;obtain⟨b,c,q⟩:=A.done;exact⟨B.trans (b.mono B.size),c,q⟩
def IA(w:Wd)(i:Nat):Wd:=w.out i (step (w.Zc i))
def FA(w:Wd):Wd:=IA (IA (IA (IA (IA w 0) 1) 2) 3) 4
def LF(w:Wd):Wd:=w.Zm.foldl JP { w with Zm:=[] }
def DN(w:Wd):Wd:=LF (FA w)
def YC:Nat->Wd->Wd
 | 0,w=>w
 | k+1,w=>DN (YC k w)
def Uq(w:Wd)(n:Nat):act w (UH n).ac=IA w n:=by
 unfold act UH Raw.ac IA;simp
def mj(w:Wd):act w Kv.ac=LF w:=by
 unfold act Kv Raw.ac LF;simp
def Se(l k:List Raw):JC (l++k)=(k.map Raw.ac).foldl act (JC l):=by
 unfold JC TG;rw[a9,bG]
def rH(l:List Raw):JC (l++Vj)=DN (JC l):=by
 rw[Se];show act (act (act (act (act (act (JC l) (UH 0).ac) (UH 1).ac) (UH 2).ac) (UH 3).ac) (UH 4).ac) Kv.ac=_;rw[Uq,Uq,Uq,Uq,Uq,mj];rfl
def FB(l:List Raw):∀k,JC (l++J6 k)=YC k (JC l):=by
 intro k
 induction k with
 | zero=>rw[show J6 0=[] from rfl,bh];rfl
 | succ k ih=>rw[RT,<-aX,rH,ih];rfl
def WR(w:Wd)(n:Nat)(hu:(w.Zc n).up=true):act w (J4 n).ac=w:=by
 have e:act w (J4 n).ac=w.set n (started n (w.Zc n)):=by
  unfold act J4 Raw.ac;simp
 rw[e];unfold started;rw[if_pos hu];unfold Wd.set
 congr 1
 funext j
 split
 .rename_i q;rw[q]
 .rfl
def Mp(l:List Raw)(hu:∀i,i<5->((JC l).Zc i).up=true):JC (l++YX 5)=JC l:=by
 rw[Se];show act (act (act (act (act (JC l) (J4 0).ac) (J4 1).ac) (J4 2).ac) (J4 3).ac) (J4 4).ac=_;rw[WR _ _ (hu 0 mD),WR _ _ (hu 1 mD),WR _ _ (hu 2 mD),WR _ _ (hu 3 mD),WR _ _ (hu 4 mD)]
def FC:∀(ls:List Yn) (w:Wd) (i:Nat),(ls.foldl JP w).Zc i=if (w.Zc i).up=true then { w.Zc i with Zf:=(w.Zc i).Zf++ls.filter (fun l=>decide (l.to.toNat=i)) } else w.Zc i:=by
 intro ls
 induction ls with
 | nil=>intro w i;simp
 | cons l ls ih=>
  intro w i;rw[a3,ih];unfold JP;by_cases e:i=l.to.toNat
  .subst e;by_cases hu:(w.Zc l.to.toNat).up=true
   .rw[if_pos hu];unfold Wd.set;simp only[if_true,hu,b6,decide_true,aX,List.cons_append,bg]
   .rw[if_neg hu,if_neg hu,if_neg hu]
  .have hf:(l :: ls).filter (fun l=>decide (l.to.toNat=i))=ls.filter (fun l=>decide (l.to.toNat=i)):=by
    rw[b6,if_neg];simp;exact fun q=>e q.symm
   rw[hf];split
   .unfold Wd.set;simp only[if_neg e]
   .rfl
def Jq(w:Wd):List Yn:=w.Zm++(step (w.Zc 0)).ls++(step (w.Zc 1)).ls++(step (w.Zc 2)).ls++(step (w.Zc 3)).ls++(step (w.Zc 4)).ls
def jN(w:Wd):(FA w).Zm=Jq w:=by
 unfold FA Jq IA Wd.out;simp
def rI(w:Wd)(i:Nat)(hi:i<5):(FA w).Zc i=(step (w.Zc i)).n:=by
 match i,hi with
 | 0,_=>rfl
 | 1,_=>rfl
 | 2,_=>rfl
 | 3,_=>rfl
 | 4,_=>rfl
def J7(w:Wd)(i:Nat)(hi:i<5)(hu:(w.Zc i).up=true):(DN w).Zc i = { (step (w.Zc i)).n with Zf:=(step (w.Zc i)).n.Zf++(Jq w).filter (fun l=>decide (l.to.toNat=i)) }:=by
 unfold DN LF;have e:({ FA w with Zm:=[] }:Wd).Zc i=(step (w.Zc i)).n:=rI w i hi;rw[FC,e,if_pos (by rw[(OX (w.Zc i)).1];exact hu),jN]
def Bo(w:Wd):(DN w).Zm=[]:=by
 unfold DN LF;exact (Fs _ _).2.2
def ZhG(w:Wd)(i:Nat)(hi:i<5)(hu:(w.Zc i).up=true):((DN w).Zc i).up=true:=by
 rw[J7 w i hi hu];show (step (w.Zc i)).n.up=true;rw[(OX (w.Zc i)).1];exact hu
def QY{w:Wd}{l:Yn}:l∈Jq w↔l∈w.Zm\/∃i,i<5/\l∈(step (w.Zc i)).ls:=by
 unfold Jq;simp only[ak]
 constructor
 .rintro (((((h|h)|h)|h)|h)|h)
  .exact .inl h
  .exact .inr ⟨0,mD,h⟩
  .exact .inr ⟨1,mD,h⟩
  .exact .inr ⟨2,mD,h⟩
  .exact .inr ⟨3,mD,h⟩
  .exact .inr ⟨4,mD,h⟩
 .rintro (h|⟨i,hi,h⟩)
  .exact .inl (.inl (.inl (.inl (.inl h))))
  .match i,hi with
   | 0,_=>exact .inl (.inl (.inl (.inl (.inr h))))
   | 1,_=>exact .inl (.inl (.inl (.inr h)))
   | 2,_=>exact .inl (.inl (.inr h))
   | 3,_=>exact .inl (.inr h)
   | 4,_=>exact .inr h
def RU{w:Wd}{i:Nat}(hi:i<5)(hu:(w.Zc i).up=true){l:Yn}:l∈((DN w).Zc i).Zf↔l∈(step (w.Zc i)).n.Zf\/(l∈Jq w/\l.to.toNat=i):=by
 rw[J7 w i hi hu];simp only[ak,a5,decide_eq_true_eq]
structure Laws(I:Nd->Prop)(J K:Yn->Prop):Prop where
 box:∀n k,I n->I { n with Zf:=k }
 hnd:∀n l,I n->n.Zp=am->J l->I (Zx n l).n/\∀m∈(Zx n l).ls,K m
 dty:∀n,I n->n.Zp=am->I (YH n).n/\∀m∈(YH n).ls,K m
 fin:∀n p,I n->n.Zp=Z p->I (Yp (ZJ n) p).n/\∀m∈(Yp (ZJ n) p).ls,K m
def WS(n:Nd):Prop:=n.Zp=am/\(Zy n n.Zf).n.Zp=am
def JQ{I:Nd->Prop}{J K:Yn->Prop}(W:Laws I J K):∀(k:List Yn) (n:Nd),I n->(∀l∈k,J l)->I (Zy n k).n/\(∀m∈(Zy n k).ls,K m)/\∀l∈(Zy n k).n.Zf,l∈k:=by
 intro k
 induction k with
 | nil=>
  intro n h _;unfold Zy;exact⟨W.box _ _ h,(fun m hm=>by cases hm),(fun l hl=>by cases hl)⟩
 | cons l k ih=>
  intro n h hk;unfold Zy;by_cases hp:n.Zp.isSome=true
  .rw[if_pos hp];exact⟨W.box _ _ h,(fun m hm=>by cases hm),fun m hm=>hm⟩
  .rw[if_neg hp];have qu:({ n with Zf:=k }:Nd).Zp=am:=by
    show n.Zp=am
    cases q:n.Zp with
    | none=>rfl
    | some p=>rw[q]at hp;exact absurd rfl hp
   obtain⟨h1,h2⟩:=W.hnd { n with Zf:=k } l (W.box _ _ h) qu (hk l sW);obtain⟨h3,h4,h5⟩:=ih _ h1 (fun m hm=>hk m (by simp[hm]));refine⟨h3,fun m hm=>?_,fun m hm=>List.mem_cons_of_mem _ (h5 m hm)⟩;rcases ak.1 hm with hm|hm
   .exact h2 m hm
   .exact h4 m hm
def Rj{I:Nd->Prop}{J K:Yn->Prop}(W:Laws I J K){n:Nd}(hu:n.up=true)(h:I n)(hb:∀l∈n.Zf,J l):I (step n).n/\(∀m∈(step n).ls,K m)/\∀l∈(step n).n.Zf,l∈n.Zf:=by
 unfold step;rw[if_pos hu]
 cases hp:n.Zp with
 | some p=>
  simp only;obtain⟨h1,h2⟩:=W.fin n p h hp;exact⟨h1,h2,fun l hl=>by rw[VH]at hl;exact hl⟩
 | none=>
  simp only;obtain⟨h1,h2,h3⟩:=JQ W n.Zf n h hb;split
  .exact⟨h1,h2,h3⟩
  .rename_i q;have q0:(Zy n n.Zf).n.Zp=am:=by
    cases e:(Zy n n.Zf).n.Zp with
    | none=>rfl
    | some p=>rw[e]at q;exact absurd rfl q
   obtain⟨h4,h5⟩:=W.dty _ h1 q0;refine⟨h4,fun m hm=>?_,fun l hl=>?_⟩
   .rcases ak.1 hm with hm|hm
    .exact h2 m hm
    .exact h5 m hm
   .simp only at hl;rw[Fu]at hl;exact h3 l hl
def drain_empty:∀(k:List Yn) (n:Nd),(Zy n k).n.Zp=am->(Zy n k).n.Zf=[]:=by
 intro k
 induction k with
 | nil=>intro n _;unfold Zy;rfl
 | cons l k ih=>
  intro n h;unfold Zy at h ⊢;by_cases hp:n.Zp.isSome=true
  .rw[if_pos hp]at h;have h:n.Zp=am:=h;rw[h]at hp
   cases hp
  .rw[if_neg hp]at h ⊢;exact ih _ h
def J8{n:Nd}(hu:n.up=true)(hf:WS n):step n=⟨(YH (Zy n n.Zf).n).n,(Zy n n.Zf).ls++(YH (Zy n n.Zf).n).ls,(Zy n n.Zf).ts++(YH (Zy n n.Zf).n).ts⟩:=by
 unfold step;rw[if_pos hu,hf.1];simp only;rw[hf.2];rfl
def Nz{n:Nd}(hu:n.up=true)(hf:WS n):(step n).n.Zf=[]:=by
 rw[J8 hu hf];show (YH (Zy n n.Zf).n).n.Zf=[]
 rw[Fu];exact drain_empty _ _ hf.2
structure Ou(I:Nd->Prop)(J A G:Yn->Prop)(E F:Nd->Prop):Prop where
 Mq:∀n k,E n->E { n with Zf:=k }
 ZhH:∀n l,I n->n.Zp=am->J l->E n->E (Zx n l).n
 Zmv:∀n,I n->n.Zp=am->E n->E (YH n).n
 yg:∀n p,I n->n.Zp=Z p->E n->E (Yp (ZJ n) p).n
 Zam:∀n k,F n->F { n with Zf:=k }
 cZ:∀n,F n->n.Zp≠am
 Zmw:∀n p,I n->n.Zp=Z p->F n->E (Yp (ZJ n) p).n\/∃m∈(Yp (ZJ n) p).ls,G m
 hit:∀n l,I n->n.Zp=am->J l->A l->E (Zx n l).n\/F (Zx n l).n\/∃m∈(Zx n l).ls,G m
def rK{I:Nd->Prop}{J K A G:Yn->Prop}{E F:Nd->Prop}(W:Laws I J K)(H:Ou I J A G E F):∀(k:List Yn) (n:Nd),I n->(∀l∈k,J l)->n.Zp=am->(E n\/∃l∈k,A l) ->
  E (Zy n k).n\/F (Zy n k).n\/(∃l∈(Zy n k).n.Zf,A l)\/∃m∈(Zy n k).ls,G m:=by
 intro k
 induction k with
 | nil=>
  intro n h _ hp hs;unfold Zy;rcases hs with hs|⟨l,hl,_⟩
  .exact .inl (H.Mq _ _ hs)
  .cases hl
 | cons l k ih=>
  intro n h hk hp hs;have hI:=W.box n k h;have qu:({ n with Zf:=k }:Nd).Zp=am:=hp;have hJ:=hk l sW;obtain⟨h1,_⟩:=W.hnd _ l hI qu hJ;have e:Zy n (l :: k)=⟨(Zy (Zx { n with Zf:=k } l).n k).n,(Zx { n with Zf:=k } l).ls++(Zy (Zx { n with Zf:=k } l).n k).ls,(Zx { n with Zf:=k } l).ts++(Zy (Zx { n with Zf:=k } l).n k).ts⟩:=by
   conv=>lhs;unfold Zy
   rw[if_neg (by rw[hp];decide)]
  rw[e];simp only;have hj:∀m∈k,J m:=fun m hm=>hk m (by simp[hm])
  -- behind iY first letter
  have main:(E (Zx { n with Zf:=k } l).n\/F (Zx { n with Zf:=k } l).n\/(∃m∈(Zx { n with Zf:=k } l).ls,G m))\/∃m∈k,A m:=by
   rcases hs with hs|⟨m,hm,hA⟩
   .exact .inl (.inl (H.ZhH _ l hI qu hJ (H.Mq _ _ hs)))
   .rcases bd.1 hm with rfl|hm
    .exact .inl (H.hit _ _ hI qu hJ hA)
    .exact .inr ⟨m,hm,hA⟩
  have stop:∀(x:Nd),x.Zp.isSome=true->(Zy x k)=⟨{ x with Zf:=k },[],[]⟩\/k=[]:=fun x hx=>by
   cases k with
   | nil=>exact .inr rfl
   | cons a k=>exact .inl (by unfold Zy;rw[if_pos hx])
  have onF:F (Zx { n with Zf:=k } l).n->F (Zy (Zx { n with Zf:=k } l).n k).n:=fun hF=>by
   have hs:(Zx { n with Zf:=k } l).n.Zp.isSome=true:=by
    have:=H.cZ _ hF
    cases q:(Zx { n with Zf:=k } l).n.Zp with
    | none=>exact absurd q this
    | some p=>rfl
   rcases stop _ hs with q|q
   .rw[q];exact H.Zam _ _ hF
   .subst q;unfold Zy;exact H.Zam _ _ hF
  rcases main with (hE|hF|⟨m,hm,hG⟩)|hA
  .by_cases hq:(Zx { n with Zf:=k } l).n.Zp=am
   .rcases ih _ h1 hj hq (.inl hE) with q|q|q|⟨m,hm,q⟩
    .exact .inl q
    .exact .inr (.inl q)
    .exact .inr (.inr (.inl q))
    .exact .inr (.inr (.inr ⟨m,ak.2 (.inr hm),q⟩))
   .have hs:(Zx { n with Zf:=k } l).n.Zp.isSome=true:=by
     cases q:(Zx { n with Zf:=k } l).n.Zp with
     | none=>exact absurd q hq
     | some p=>rfl
    rcases stop _ hs with q|q
    .rw[q];exact .inl (H.Mq _ _ hE)
    .subst q;unfold Zy;exact .inl (H.Mq _ _ hE)
  .exact .inr (.inl (onF hF))
  .exact .inr (.inr (.inr ⟨m,ak.2 (.inl hm),hG⟩))
  .by_cases hq:(Zx { n with Zf:=k } l).n.Zp=am
   .rcases ih _ h1 hj hq (.inr hA) with q|q|q|⟨m,hm,q⟩
    .exact .inl q
    .exact .inr (.inl q)
    .exact .inr (.inr (.inl q))
    .exact .inr (.inr (.inr ⟨m,ak.2 (.inr hm),q⟩))
   .have hs:(Zx { n with Zf:=k } l).n.Zp.isSome=true:=by
     cases q:(Zx { n with Zf:=k } l).n.Zp with
     | none=>exact absurd q hq
     | some p=>rfl
    rcases stop _ hs with q|q
    .rw[q];exact .inr (.inr (.inl hA))
    .subst q;obtain⟨m,hm,_⟩:=hA;cases hm
def Src(A:Yn->Prop)(E F:Nd->Prop)(n:Nd):Prop:=E n\/F n\/∃l∈n.Zf,A l
def Zan{I:Nd->Prop}{J K A G:Yn->Prop}{E F:Nd->Prop}(W:Laws I J K)(H:Ou I J A G E F){n:Nd}(hu:n.up=true)(h:I n)(hb:∀l∈n.Zf,J l)(hs:Src A E F n):
  (Src A E F (step n).n\/∃m∈(step n).ls,G m)/\(WS n->E (step n).n\/∃m∈(step n).ls,G m):=by
 cases hp:n.Zp with
 | some p=>
  have e:step n=Yp (ZJ n) p:=by unfold step;rw[if_pos hu,hp]
  rw[e];refine⟨?_,fun hf=>by rw[hf.1]at hp;cases hp⟩;rcases hs with q|q|⟨l,hl,q⟩
  .exact .inl (.inl (H.yg n p h hp q))
  .rcases H.Zmw n p h hp q with q|q
   .exact .inl (.inl q)
   .exact .inr q
  .exact .inl (.inr (.inr ⟨l,by rw[VH];exact hl,q⟩))
 | none=>
  have LN:E n\/∃l∈n.Zf,A l:=by
   rcases hs with q|q|q
   .exact .inl q
   .exact absurd hp (H.cZ n q)
   .exact .inr q
  have D:=rK W H n.Zf n h hb hp LN;have hd:=(JQ W n.Zf n h hb).1;by_cases hq:(Zy n n.Zf).n.Zp=am
  .rw[J8 hu ⟨hp,hq⟩];have G0:E (YH (Zy n n.Zf).n).n\/∃m∈(Zy n n.Zf).ls++(YH (Zy n n.Zf).n).ls,G m:=by
    rcases D with q|q|⟨l,hl,_⟩|⟨m,hm,q⟩
    .exact .inl (H.Zmv _ hd hq q)
    .exact absurd hq (H.cZ _ q)
    .rw[drain_empty _ _ hq]at hl;cases hl
    .exact .inr ⟨m,ak.2 (.inl hm),q⟩
   refine⟨?_,fun _=>G0⟩;rcases G0 with q|q
   .exact .inl (.inl q)
   .exact .inr q
  .have e:step n=Zy n n.Zf:=by
    unfold step;rw[if_pos hu,hp];simp only;rw[if_pos]
    cases q:(Zy n n.Zf).n.Zp with
    | none=>exact absurd q hq
    | some p=>rfl
   rw[e];refine⟨?_,fun hf=>absurd hf.2 hq⟩;rcases D with q|q|q|q
   .exact .inl (.inl q)
   .exact .inl (.inr (.inl q))
   .exact .inl (.inr (.inr q))
   .exact .inr q
end Go.Proofs.YtnhfdnlcpdbjlaaGreatDoor

/- Part Tcd. -/
import Derived.Test.YtnhfdnlcpdbjlaaGreatDoorTyb
open List renaming length→U,mem_singleton→aa,mem_append→an,length_append→au,mem_filter→aw,mem_flatMap→aF,mem_iff_getElem?→aI,mem_cons_self→aU,mem_cons→aX,mem_range→a4,mem_cons_of_mem→a6,mem_map→a7,getElem?_eq_some_iff→a8,length_erase_of_mem→a9,filter_cons_of_pos→ba,filter_cons_of_neg→bc,length_cons→bd,cons_append→bf,length_map→bh,flatMap_append→bj,range→bn,filter_append→bo,not_mem_nil→br,range_succ→bx,append_nil→bz
open Nat renaming le_refl→am,div_le_div_right→aK,le_add_right→a5,mul_le_mul_left→bl,le_trans→bp,zero_le→bw
open Int renaming toNat_natCast→a0
open Option renaming some→ak,none→al
namespace Go.Proofs.YtnhfdnlcpdbjlaaGreatDoor
open Go Go.V
set_option linter.all false
variable{X:Nat}{n:Nd}{r:XM}
def Has{β:Type}(l:List (Int × β))(k:Int):Prop:=Yl l k≠al
def Has.ins{β:Type}{l:List (Int × β)}{j:Int}(h:Has l j)(k:Int)(v:β):Has (Go.V.ins l k v) j:=by
 unfold Has;rw[Xl];split
 .exact fun e=>by cases e
 .exact h
def Has.now{β:Type}(l:List (Int × β))(k:Int)(v:β):Has (Go.V.ins l k v) k:=by
 unfold Has;rw[Xl,if_pos rfl];exact fun e=>by cases e
def jO(r:XM)(s j:Int):Prop:=Has ((Yl r.YY s).getD []) j
structure X7(r r':XM):Prop where
 b:r'.b=r.b
 Yj:∀s x,Yl r.Yj s=ak x->Yl r'.Yj s=ak x
 Xf:r.Xf=true->r'.Xf=true
 ZL:∀k,Has r.ZL k->Has r'.ZL k
 YY:∀s j,jO r s j->jO r' s j
def X7.refl(r:XM):X7 r r:=⟨rfl,fun _ _ h=>h,fun h=>h,fun _ h=>h,fun _ _ h=>h⟩
def X7.trans{a b c:XM}(h1:X7 a b)(h2:X7 b c):X7 a c:=
 ⟨by rw[h2.b,h1.b],fun s x h=>h2.Yj s x (h1.Yj s x h),fun h=>h2.Xf (h1.Xf h),fun k h=>h2.ZL k (h1.ZL k h),fun s j h=>h2.YY s j (h1.YY s j h)⟩
structure Vq(r r':XM):Prop where
 k:X7 r r'
 p:r'.Yj=r.Yj
 g:r'.Xf=r.Xf
def Vq.refl(r:XM):Vq r r:=⟨X7.refl r,rfl,rfl⟩
def Vq.trans{a b c:XM}(h1:Vq a b)(h2:Vq b c):Vq a c:=⟨h1.k.trans h2.k,by rw[h2.p,h1.p],by rw[h2.g,h1.g]⟩
def Uw:Option XM->Option XM->Prop
 | none,al=>True
 | some r,ak r'=>Vq r r'
 | _,_=>False
def Uw.refl:∀o,Uw o o
 | none=>trivial
 | some r=>Vq.refl r
def Uw.trans:∀{a b c:Option XM},Uw a b->Uw b c->Uw a c
 | none,al,al,_,_=>trivial
 | some _,ak _,ak _,h1,h2=>Vq.trans h1 h2
 | none,ak _,_,h,_=>h.elim
 | some _,al,_,h,_=>h.elim
 | none,al,ak _,_,h=>h.elim
 | some _,ak _,al,_,h=>h.elim
structure Tp(n m:Nd):Prop where
 up:m.up=n.up
 me:m.me=n.me
 ZI:∃e,m.ZI=n.ZI++e
 Zi:∀s,Has n.Zi s->Has m.Zi s
 ZB:∀x∈n.ZB,x∈m.ZB\/x∈m.ZI
def Tp.refl(n:Nd):Tp n n:=⟨rfl,rfl,⟨[],sW⟩,fun _ h=>h,fun x h=>.inl h⟩
def Tp.trans{a b c:Nd}(h1:Tp a b)(h2:Tp b c):Tp a c:=by
 obtain⟨e1,p1⟩:=h1.ZI;obtain⟨e2,p2⟩:=h2.ZI;refine⟨by rw[h2.up,h1.up],by rw[h2.me,h1.me],⟨e1++e2,by rw[p2,p1,List.append_assoc]⟩,fun s h=>h2.Zi s (h1.Zi s h),fun x hx=>?_⟩;rcases h1.ZB x hx with q|q
 .exact h2.ZB x q
 .exact .inr (by rw[p2];exact an.2 (.inl q))
def Tp.same{m:Nd}(h1:m.up=n.up)(h2:m.me=n.me)(h3:m.ZI=n.ZI)(h4:m.Zi=n.Zi)(h5:m.ZB=n.ZB):Tp n m:=
 ⟨h1,h2,⟨[],by rw[h3];simp⟩,fun s h=>by rw[h4];exact h,fun x hx=>.inl (by rw[h5];exact hx)⟩
structure Xt(n m:Nd):Prop where
 go:Tp n m
 Zr:m.Zr=n.Zr
 Y5:m.Y5=n.Y5
 data:m.data=n.data
 Zp:m.Zp=n.Zp
 Kn:Uw n.Zh m.Zh
def Xt.refl(n:Nd):Xt n n:=⟨Tp.refl n,rfl,rfl,rfl,rfl,Uw.refl _⟩
def Xt.trans{a b c:Nd}(h1:Xt a b)(h2:Xt b c):Xt a c:=
 ⟨h1.go.trans h2.go,by rw[h2.Zr,h1.Zr],by rw[h2.Y5,h1.Y5],by rw[h2.data,h1.data],by rw[h2.Zp,h1.Zp],h1.Kn.trans h2.Kn⟩
def Bp(n:Nd)(x:Cm):Xt n (QS n x):=by
 refine⟨⟨rfl,rfl,⟨[x],rfl⟩,fun _ h=>h,fun y hy=>?_⟩,rfl,rfl,rfl,rfl,Uw.refl _⟩;by_cases e:y=x
 .exact .inr (an.2 (.inr (by rw[e];simp)))
 .exact .inl (aw.2 ⟨hy,by simp[e]⟩)
def NB:∀(k:Nat) (n:Nd),Xt n (Yr k n).1/\(Yr k n).1.Zi=n.Zi:=by
 intro k
 induction k with
 | zero=>intro n;exact⟨Xt.refl n,rfl⟩
 | succ k ih=>
  intro n;unfold Yr;split
  .exact⟨Xt.refl n,rfl⟩
  .rename_i x _;obtain⟨h1,h2⟩:=ih (QS n x);exact⟨(Bp n x).trans h1,h2⟩
def Qe(n:Nd)(s:Int)(x:Cm):Xt n (X9 n s x).n/\Has (X9 n s x).n.Zi s/\(X9 n s x).ls=[]:=by
 unfold X9;obtain⟨h1,h2⟩:=NB ((XV n s x).Zi.length+1) (XV n s x);refine⟨Xt.trans (b:=XV n s x) ⟨⟨rfl,rfl,⟨[],by simp[XV]⟩,fun j h=>Has.ins h s x,fun y hy=>.inl hy⟩,rfl,rfl,rfl,rfl,Uw.refl _⟩ h1,?_,rfl⟩;show Has (Yr ((XV n s x).Zi.length+1) (XV n s x)).1.Zi s;rw[h2];exact Has.now _ _ _
def Ov(n:Nd)(l:Yn):Xt n (Xo n l):=by
 unfold Xo;split
 .exact⟨Tp.same rfl rfl rfl rfl rfl,rfl,rfl,rfl,rfl,Uw.refl _⟩
 .exact Xt.refl n
def DO(n:Nd)(x:Cm):Xt n (add n x)/\(x∈(add n x).ZB\/x∈(add n x).ZI):=by
 unfold add;split
 .rename_i q;exact⟨Xt.refl n,q⟩
 .exact⟨⟨⟨rfl,rfl,⟨[],sW⟩,fun _ h=>h,fun y hy=>.inl (an.2 (.inl hy))⟩,rfl,rfl,rfl,rfl,Uw.refl _⟩,.inl (an.2 (.inr sW))⟩
def jP(hr:n.Zh=ak r)(l:Yn):Xt n (ZcR n r l):=by
 refine⟨Tp.same rfl rfl rfl rfl rfl,rfl,rfl,rfl,rfl,?_⟩;rw[hr];exact⟨⟨rfl,fun _ _ h=>h,fun h=>h,fun k h=>Has.ins h _ _,fun _ _ h=>h⟩,rfl,rfl⟩
def FD(hr:n.Zh=ak r)(l:Yn):Xt n (Ta n r l):=by
 refine⟨Tp.same rfl rfl rfl rfl rfl,rfl,rfl,rfl,rfl,?_⟩;rw[hr];refine⟨⟨rfl,fun _ _ h=>h,fun h=>h,fun k h=>h,fun s j h=>?_⟩,rfl,rfl⟩;unfold jO;show Has ((Yl (ins r.YY l.v.Zs (Qp r l)) s).getD []) j;rw[Xl];split
 .rename_i e;show Has (Qp r l) j;unfold Qp;unfold jO at h;rw[e];exact Has.ins h _ _
 .exact h
def FE(n:Nd)(l:Yn):Xt n (Yx n l).n/\(Yx n l).ls=[]:=by
 unfold Yx
 cases hr:n.Zh with
 | none=>exact⟨Xt.refl n,rfl⟩
 | some r=>
  simp only;split
  .split
   .exact⟨jP hr l,rfl⟩
   .exact⟨Xt.refl n,rfl⟩
  .split
   .exact⟨Xt.refl n,rfl⟩
   .split
    .obtain⟨h1,_,h3⟩:=Qe (Ta n r l) l.v.Zs l.v.cm;exact⟨(FD hr l).trans h1,h3⟩
    .exact⟨FD hr l,rfl⟩
def da(n:Nd)(l:Yn):Xt n (JY n l).n:=by
 unfold JY;split
 .exact Ov n l
 .exact Ov n l
def Zmx(n:Nd)(l:Yn):Nd:={ n with data:=n.data++YS (JF l.b),Zp:=ak (.Q8 ⟨l.b,n.Zr.l⟩ l.JA l.b n.Zr.l) }
def Zmy(n:Nd)(l:Yn):Nd:={ n with data:=n.data++YS (Uc l.v),Zp:=ak (.Wo ⟨l.v.b,Jh n.Zr.l l.v⟩ l.JA l.v) }
def Xy(n:Nd)(l:Yn):(∀m∈(Zx n l).ls,m.ZH≠0/\m.ZH≠2)/\(Xt n (Zx n l).n \/
  (l.ZH=0/\YF n.Zr.p n.Zr.l l.b=0/\n.Zr.p≠l.b/\Jn n.data n.Y5 l.b=0/\(Zx n l).n=Zmx n l) \/
  (l.ZH=2/\Xc n.Zr.p n.Zr.l l.v=0/\l.v ∉ n.Zr.l/\Qn n.data n.Y5 l.v=0/\(Zx n l).n=Zmy n l)):=by
 have one:∀(k:Int) (f t:Int) (b:Yg) (v:Vt) (vs:List Vt),k≠0->k≠2->∀m∈[(⟨k,f,t,b,v,vs⟩:Yn)],m.ZH≠0/\m.ZH≠2:=fun k f t b v vs h1 h2 m hm=>by
  rw[aa.1 hm];exact⟨h1,h2⟩
 have nil:∀m∈([]:List Yn),m.ZH≠0/\m.ZH≠2:=fun m hm=>by cases hm
 unfold Zx;split
 .rename_i hk;unfold Y3;split
  .exact⟨one _ _ _ _ _ _ KC KC,.inl (Xt.refl n)⟩
  .split
   .exact⟨one _ _ _ _ _ _ KC KC,.inl (Xt.refl n)⟩
   .split
    .exact⟨nil,.inl (Xt.refl n)⟩
    .rename_i q1 q2 q3;exact⟨nil,.inr (.inl ⟨hk,mD,q2,mD,rfl⟩)⟩
 split
 .obtain⟨h1,h2⟩:=FE n l;exact⟨by rw[h2];exact nil,.inl h1⟩
 split
 .rename_i hk;unfold asked;split
  .exact⟨one _ _ _ _ _ _ KC KC,.inl (Xt.refl n)⟩
  .split
   .exact⟨one _ _ _ _ _ _ KC KC,.inl (Xt.refl n)⟩
   .split
    .exact⟨nil,.inl (Xt.refl n)⟩
    .rename_i q1 q2 q3;exact⟨nil,.inr (.inr ⟨hk,mD,q2,mD,rfl⟩)⟩
 split
 .exact⟨nil,.inl (DO n l.v.cm).1⟩
 split
 .refine⟨?_,.inl (da n l)⟩;unfold JY;split
  .exact one _ _ _ _ _ _ KC KC
  .exact nil
 split
 .obtain⟨h1,_,h3⟩:=Qe n l.v.Zs l.v.cm;exact⟨by rw[h3];exact nil,.inl h1⟩
 .exact⟨nil,.inl (Ov n l)⟩
def db(n:Nd)(r:XM)(x:Cm):X7 r (QT n r x):=by
 unfold QT;split
 .rename_i s hs;refine⟨rfl,fun t y h=>?_,fun h=>h,fun _ h=>h,fun _ _ h=>h⟩;show Yl (ins r.Yj (s:Int) x) t=ak y;rw[Xl];split
  .rename_i e;have:=(Ky _ _ _ hs).2.2.1;rw[<-e,this]at h
   cases h
  .exact h
 .exact X7.refl r
def Sz(n:Nd):∀(l:List Cm) (r:XM),X7 r (Jp n r l):=by
 intro l
 induction l with
 | nil=>intro r;exact X7.refl r
 | cons x l ih=>intro r;exact (db n r x).trans (ih _)
def Blank(o:Option XM):Prop:=∀r,o=ak r->r.Xf=false->∀s,Yl r.Yj s=al
def UI(n:Nd)(r:XM)(hb:r.Xf=false->∀s,Yl r.Yj s=al):X7 r (Xi n r)/\(Xi n r).Xf=true:=by
 have hp:∀(l:List Cm) (r:XM),r.Xf=true->(Jp n r l).Xf=true:=fun l r h=>(Sz n l r).Xf h;unfold Xi;by_cases q:r.Xf=true
 .rw[if_pos q];exact⟨Sz n _ r,hp _ _ q⟩
 .rw[if_neg q];have q0:r.Xf=false:=by simpa using q
  refine⟨X7.trans (b:=Wp n r) ⟨rfl,fun s x h=>?_,fun h=>absurd h q,fun _ h=>h,fun _ _ h=>h⟩ (Sz n _ _),hp _ _ rfl⟩;rw[hb q0 s]at h
  cases h
def Rk(n:Nd)(r:XM):(Xi n r).YY=r.YY/\(Xi n r).ZL=r.ZL:=by
 have hp:∀(l:List Cm) (r:XM),(Jp n r l).YY=r.YY/\(Jp n r l).ZL=r.ZL:=by
  intro l
  induction l with
  | nil=>intro r;exact⟨rfl,rfl⟩
  | cons x l ih=>
   intro r;have e:(QT n r x).YY=r.YY/\(QT n r x).ZL=r.ZL:=by unfold QT;split<;>exact⟨rfl,rfl⟩
   obtain⟨h1,h2⟩:=ih (QT n r x);exact⟨by rw[<-e.1];exact h1,by rw[<-e.2];exact h2⟩
 unfold Xi;obtain⟨h1,h2⟩:=hp n.ZB (if r.Xf=true then r else Wp n r);rw[h1,h2];split<;>exact⟨rfl,rfl⟩
structure Ey(n m:Nd):Prop where
 up:m.up=n.up
 me:m.me=n.me
 ZI:m.ZI=n.ZI
 Zi:m.Zi=n.Zi
 ZB:m.ZB=n.ZB
 Zq:m.Zq=n.Zq
 Zr:m.Zr=n.Zr
 Y5:m.Y5=n.Y5
 Kn:(n.Zh=al/\m.Zh=al)\/(∃r,n.Zh=ak r/\Zw r.b n.Zr.p/\m.Zh=al)\/∃r r',n.Zh=ak r/\¬Zw r.b n.Zr.p/\m.Zh=ak r'/\X7 r r'/\(r'=r\/r'.Xf=true)/\r'.YY=r.YY/\r'.ZL=r.ZL
 Zp:(m.Zp=al/\m.data=n.data)\/∃r,n.Zh=ak r/\Zw n.Zr.p r.b/\Jn n.data n.Y5 r.b=0/\m.data=n.data++YS (JF r.b) /\
  m.Zp=ak (.Zr (if YF n.Zr.p n.Zr.l r.b=0 then ⟨r.b,n.Zr.l⟩ else JG) (if YF n.Zr.p n.Zr.l r.b=0 then n.Zr.l else []) true)
def UJ(n:Nd):(n.Zh=al/\Zo n=n)\/(∃r,n.Zh=ak r/\Zw r.b n.Zr.p/\Zo n = { n with Zh:=al })\/∃r,n.Zh=ak r/\¬Zw r.b n.Zr.p/\Zo n=n:=by
 unfold Zo
 cases hr:n.Zh with
 | none=>exact .inl ⟨rfl,rfl⟩
 | some r=>
  simp only;by_cases q:Zw r.b n.Zr.p
  .rw[if_pos q];exact .inr (.inl ⟨r,rfl,q,rfl⟩)
  .rw[if_neg q];exact .inr (.inr ⟨r,rfl,q,rfl⟩)
def Ey.Yw{m:Nd}(h:Ey n m):Ey n (Je m):=⟨h.up,h.me,h.ZI,h.Zi,h.ZB,h.Zq,h.Zr,h.Y5,h.Kn,h.Zp⟩
def ZdS(n:Nd)(l:Yn):Prop:=l.ZH=0\/l.ZH=2->∃r,n.Zh=ak r/\¬Zw r.b n.Zr.p/\¬Zw n.Zr.p r.b/\(l.ZH=0->l.b=r.b)/\(l.ZH=2->l.v.b=r.b)/\l.JA=n.me
def jQ(hp:n.Zp=al)(hr:n.Zh=ak r)(hq:¬Zw r.b n.Zr.p)(hb:r.Xf=false->∀s,Yl r.Yj s=al):Ey n (Jf n r).n/\∀l∈(Jf n r).ls,ZdS n l:=by
 have same:∀m:Nd,m.up=n.up->m.me=n.me->m.ZI=n.ZI->m.Zi=n.Zi->m.ZB=n.ZB->m.Zq=n.Zq->m.Zr=n.Zr->m.Y5=n.Y5->(∃r',m.Zh=ak r'/\X7 r r'/\(r'=r\/r'.Xf=true)/\r'.YY=r.YY/\r'.ZL=r.ZL)->((m.Zp=al/\m.data=n.data)\/∃r,n.Zh=ak r/\Zw n.Zr.p r.b/\Jn n.data n.Y5 r.b=0/\m.data=n.data++YS (JF r.b) /\
  m.Zp=ak (.Zr (if YF n.Zr.p n.Zr.l r.b=0 then ⟨r.b,n.Zr.l⟩ else JG) (if YF n.Zr.p n.Zr.l r.b=0 then n.Zr.l else []) true))->Ey n m:=fun m h1 h2 h3 h4 h5 h6 h7 h8 ⟨r',h9,h10⟩ h11=>
  ⟨h1,h2,h3,h4,h5,h6,h7,h8,.inr (.inr ⟨r,r',hr,hq,h9,h10⟩),h11⟩
 unfold Jf;by_cases c1:Zw n.Zr.p r.b
 .rw[if_pos c1];by_cases c2:Jn n.data n.Y5 r.b=0
  .rw[if_neg (by simp[c2])];exact⟨same _ rfl rfl rfl rfl rfl rfl rfl rfl ⟨r,hr,X7.refl r,.inl rfl,rfl,rfl⟩ (.inr ⟨r,hr,c1,c2,rfl,rfl⟩),fun l hl=>by cases hl⟩
  .rw[if_pos c2];exact⟨same _ rfl rfl rfl rfl rfl rfl rfl rfl ⟨r,hr,X7.refl r,.inl rfl,rfl,rfl⟩ (.inl ⟨hp,rfl⟩),fun l hl=>by cases hl⟩
 .rw[if_neg c1];by_cases c3:¬5<2*r.ZL.length
  .rw[if_pos c3];refine⟨same _ rfl rfl rfl rfl rfl rfl rfl rfl ⟨r,hr,X7.refl r,.inl rfl,rfl,rfl⟩ (.inl ⟨hp,rfl⟩),fun l hl=>?_⟩;unfold RM at hl;obtain⟨m,_,hm⟩:=aF.1 hl;split at hm
   .rw[aa.1 hm];exact fun _=>⟨r,hr,hq,c1,fun _=>rfl,(fun h=>by cases h),rfl⟩
   .cases hm
  .rw[if_neg c3];obtain⟨h1,ZvP⟩:=UI n r hb;refine⟨same _ rfl rfl rfl rfl rfl rfl rfl rfl ⟨_,rfl,h1,.inr ZvP,(Rk n r).1,(Rk n r).2⟩ (.inl ⟨hp,rfl⟩),fun l hl=>?_⟩;unfold U8 at hl;obtain⟨s,_,hs⟩:=aF.1 hl;unfold UM at hs;split at hs
   .split at hs
    .obtain⟨m,_,hm⟩:=aF.1 hs;unfold S7 at hm;split at hm
     .rw[aa.1 hm];exact fun _=>⟨r,hr,hq,c1,(fun h=>by cases h),fun _=>h1.b,rfl⟩
     .cases hm
    .cases hs
   .cases hs
def dd(hp:n.Zp=al)(hb:Blank n.Zh):Ey n (Z1 (Zo n)).n/\∀l∈(Z1 (Zo n)).ls,ZdS n l:=by
 have fwd:∀n:Nd,∀l∈U9 n,ZdS n l:=fun n l hl=>by
  unfold U9 at hl;obtain⟨x,_,rfl⟩:=a7.1 hl;exact fun h=>by rcases h with h|h<;>cases h
 rcases UJ n with⟨hr,e⟩|⟨r,hr,hq,e⟩|⟨r,hr,hq,e⟩
 .rw[e];unfold Z1;rw[hr];simp only;have D:Ey n n:=⟨rfl,rfl,rfl,rfl,rfl,rfl,rfl,rfl,.inl ⟨hr,hr⟩,.inl ⟨hp,rfl⟩⟩
  split
  .exact⟨D,fwd n⟩
  .exact⟨D,fun l hl=>by cases hl⟩
 .rw[e];unfold Z1;simp only;have D:Ey n { n with Zh:=al }:=⟨rfl,rfl,rfl,rfl,rfl,rfl,rfl,rfl,.inr (.inl ⟨r,hr,hq,rfl⟩),.inl ⟨hp,rfl⟩⟩
  split
  .refine⟨D,fun l hl h=>?_⟩;unfold U9 at hl;obtain⟨x,_,rfl⟩:=a7.1 hl;rcases h with h|h<;>cases h
  .exact⟨D,fun l hl=>by cases hl⟩
 .rw[e];unfold Z1;rw[hr];simp only;exact jQ hp hr hq (hb r hr)
def Xh(hp:n.Zp=al)(hb:Blank n.Zh):Ey n (YH n).n/\∀l∈(YH n).ls,ZdS n l:=by
 obtain⟨D,h⟩:=dd hp hb;unfold YH;split
 .exact⟨D,h⟩
 .refine⟨D.Yw,fun l hl=>?_⟩;rcases an.1 hl with hl|hl
  .exact h l hl
  .unfold QU at hl;split at hl
   .rw[aa.1 hl];exact fun h=>by rcases h with h|h<;>cases h
   .cases hl
def VK(n:Nd):Prop:=∀r,n.Zh=ak r->∀s,5<2*((Yl r.YY s).getD []).length->Has n.Zi s
def df:∀(k:Nat) (n:Nd),Yl (Yr k n).1.Zi ((Yr k n).1.ZI.length:Int)=al\/((Yr k n).1.ZI.length=n.ZI.length+k/\∀j,j<k->(Yl n.Zi ((n.ZI.length:Int)+j)).isSome=true):=by
 intro k
 induction k with
 | zero=>intro n;exact .inr ⟨rfl,fun j hj=>by omega⟩
 | succ k ih=>
  intro n;unfold Yr
  cases h:Yl n.Zi (n.ZI.length:Int) with
  | none=>exact .inl h
  | some x=>
   simp only;rcases ih (QS n x) with q|⟨q1,q2⟩
   .exact .inl q
   .have e:(QS n x).ZI.length=n.ZI.length+1:=by unfold QS;simp
    rw[e]at q1 q2;refine .inr ⟨mD,fun j hj=>?_⟩
    cases j with
    | zero=>simp[h]
    | succ j=>
     have:=q2 j mD;rw[show (n.ZI.length:Int)+((j+1:Nat):Int)=((n.ZI.length+1:Nat):Int)+(j:Int) by omega];exact this
def DP(n:Nd)(s:Int)(x:Cm):Yl (X9 n s x).n.Zi ((X9 n s x).n.ZI.length:Int)=al:=by
 unfold X9;rcases df ((XV n s x).Zi.length+1) (XV n s x) with q|⟨_,q⟩
 .exact q
 .have:=GV (XV n s x).Zi (XV n s x).ZI.length ((XV n s x).Zi.length+1) q;omega
def Zao(h:VK n)(s:Int)(x:Cm):VK (X9 n s x).n:=by
 have k:=(Qe n s x).1;have hr:(X9 n s x).n.Zh=n.Zh:=by
  have:∀(k:Nat) (n:Nd),(Yr k n).1.Zh=n.Zh:=by
   intro k
   induction k with
   | zero=>intro n;rfl
   | succ k ih=>
    intro n;unfold Yr;split
    .rfl
    .exact ih _
  exact this _ _
 intro r e t ht;rw[hr]at e;exact k.go.Zi t (h r e t ht)
def VK.same{m:Nd}(h:VK n)(h1:m.Zh=n.Zh)(h2:m.Zi=n.Zi):VK m:=fun r e t ht=>by
 rw[h1]at e;rw[h2];exact h r e t ht
def rL(h:VK n)(hg:Yl n.Zi (n.ZI.length:Int)=al)(l:Yn):VK (Zx n l).n/\Yl (Zx n l).n.Zi ((Zx n l).n.ZI.length:Int)=al:=by
 have hn:VK (Xo n l)/\Yl (Xo n l).Zi ((Xo n l).ZI.length:Int)=al:=by
  unfold Xo;split
  .exact⟨h.same rfl rfl,hg⟩
  .exact⟨h,hg⟩
 unfold Zx;split
 .unfold Y3
  repeat' split
  all_goals exact⟨h.same rfl rfl,hg⟩
 split
 .unfold Yx
  cases hr:n.Zh with
  | none=>exact⟨h,hg⟩
  | some r=>
   simp only;split
   .split
    .refine⟨fun r' e t ht=>?_,hg⟩;obtain rfl:=Option.some.inj e;exact h r hr t ht
    .exact⟨h,hg⟩
   .split
    .exact⟨h,hg⟩
    .have hV:∀r',(Ta n r l).Zh=ak r'->∀t,t≠l.v.Zs->5<2*((Yl r'.YY t).getD []).length->Has n.Zi t:=fun r' e t ht hl=>by
      obtain rfl:=Option.some.inj e;have hl:5<2*((Yl (ins r.YY l.v.Zs (Qp r l)) t).getD []).length:=hl;rw[Xl,if_neg (fun q=>ht q.symm)]at hl;exact h r hr t hl
     have hS:∀r',(Ta n r l).Zh=ak r'->(Yl r'.YY l.v.Zs).getD []=Qp r l:=fun r' e=>by
      obtain rfl:=Option.some.inj e;show (Yl (ins r.YY l.v.Zs (Qp r l)) l.v.Zs).getD []=_;rw[Xl,if_pos rfl];rfl
     split
     .refine⟨?_,DP _ _ _⟩;have tO:(X9 (Ta n r l) l.v.Zs l.v.cm).n.Zh=(Ta n r l).Zh:=by
       have:∀(k:Nat) (n:Nd),(Yr k n).1.Zh=n.Zh:=by
        intro k
        induction k with
        | zero=>intro n;rfl
        | succ k ih=>
         intro n;unfold Yr;split
         .rfl
         .exact ih _
       exact this _ _
      obtain⟨k1,k2,_⟩:=Qe (Ta n r l) l.v.Zs l.v.cm;intro r' e t ht;rw[tO]at e;by_cases q:t=l.v.Zs
      .rw[q];exact k2
      .exact k1.go.Zi t (hV r' e t q ht)
     .rename_i q5;refine⟨fun r' e t ht=>?_,hg⟩;by_cases q:t=l.v.Zs
      .rw[q,hS r' e]at ht;exact absurd ht q5
      .exact hV r' e t q ht
 split
 .unfold asked
  repeat' split
  all_goals exact⟨h.same rfl rfl,hg⟩
 split
 .unfold add;split
  .exact⟨h,hg⟩
  .exact⟨h.same rfl rfl,hg⟩
 split
 .unfold JY;split
  .exact hn
  .exact hn
 split
 .exact⟨Zao h _ _,DP _ _ _⟩
 .exact hn
structure PN(C:List Cm)(b:Yg)(L X:Nat)(n:Nd):Prop where
 ni:Qq C X n
 up:n.up=true
 Zr:¬Zw b n.Zr.p
 YY:∀v∈n.Zr.l,¬Zw n.Zr.p v.b
 pnd:∀p,n.Zp=ak p->¬Zw b (XW p).p/\¬Zw (XW p).p n.Zr.p/\∀v∈(XW p).l,¬Zw (XW p).p v.b
 tape:0<=n.Y5/\n.Y5<=(U n.data)
 Kn:X≠L->∀r,n.Zh=ak r->Zw r.b b
 Z5:X=L->∃r,n.Zh=ak r/\r.b=b
 Yk:Blank n.Zh
 may:∀r,n.Zh=ak r->ZC r.b
 vk:VK n
 BJ:Yl n.Zi (n.ZI.length:Int)=al
structure PJ(C:List Cm)(b:Yg)(l:Yn):Prop where
 li:Qb C l
 Q8:l.ZH=0->¬Zw b l.b
 ask:l.ZH=2->¬Zw b l.v.b
def PN.le{C:List Cm}{b:Yg}{L:Nat}(h:PN C b L X n)(hr:n.Zh=ak r):¬Zw b r.b:=by
 by_cases e:X=L
 .obtain⟨r',h1,h2⟩:=h.Z5 e;rw[hr]at h1;rw[Option.some.inj h1,h2];exact YR b
 .exact Tj (h.Kn e r hr)
def Xt.back{m:Nd}(k:Xt n m){r':XM}(hr:m.Zh=ak r'):∃r,n.Zh=ak r/\Vq r r':=by
 have q:=k.Kn;rw[hr]at q
 cases e:n.Zh with
 | none=>rw[e]at q;exact q.elim
 | some r=>rw[e]at q;exact⟨r,rfl,q⟩
def Xt.on{m:Nd}(k:Xt n m)(hr:n.Zh=ak r):∃r',m.Zh=ak r'/\Vq r r':=by
 have q:=k.Kn;rw[hr]at q
 cases e:m.Zh with
 | none=>rw[e]at q;exact q.elim
 | some r'=>rw[e]at q;exact⟨r',rfl,q⟩
def PN.pr0{C:List Cm}{b:Yg}{L:Nat}(h:PN C b L X n){c:Yg}(hc:ZC c)(hle:¬Zw c n.Zr.p):YF n.Zr.p n.Zr.l c=0:=by
 unfold YF;rw[if_neg (by rw[Ri h.ni.Zr h.YY];simp),if_neg (fun q=>q hc),if_neg hle]
def Xt.pn{C:List Cm}{b:Yg}{L:Nat}{m:Nd}(h:PN C b L X n)(hm:Qq C X m)(k:Xt n m)(hv:VK m)(hg:Yl m.Zi (m.ZI.length:Int)=al):PN C b L X m:=by
 refine⟨hm,by rw[k.go.up];exact h.up,by rw[k.Zr];exact h.Zr,by rw[k.Zr];exact h.YY,fun p hp=>by rw[k.Zr];exact h.pnd p (by rw[<-k.Zp];exact hp),by rw[k.Y5,k.data];exact h.tape,fun hx r' hr=>?_,fun hx=>?_,fun r' hr hb s=>?_,fun r' hr=>?_,hv,hg⟩
 .obtain⟨r,h1,h2⟩:=k.back hr;rw[h2.k.b];exact h.Kn hx r h1
 .obtain⟨r,h1,h2⟩:=h.Z5 hx;obtain⟨r',h3,h4⟩:=k.on h1;exact⟨r',h3,by rw[h4.k.b,h2]⟩
 .obtain⟨r,h1,h2⟩:=k.back hr;rw[h2.p];exact h.Yk r h1 (by rw[<-h2.g];exact hb) s
 .obtain⟨r,h1,h2⟩:=k.back hr;rw[h2.k.b];exact h.may r h1
section
variable {C:List Cm} {b:Yg} {L X:Nat}
def JT(hX:X<5)(hC:(U C)<=100000)(hb:ZC b):Laws (PN C b L X) (PJ C b) (PJ C b):=by
 refine⟨fun n k h=>⟨h.ni.Zf k,h.up,h.Zr,h.YY,h.pnd,h.tape,h.Kn,h.Z5,h.Yk,h.may,h.vk.same rfl rfl,h.BJ⟩,fun n l h hp hl=>?_,fun n h hp=>?_,fun n p h hp=>?_⟩
 .have O:=Ok hX h.ni hl.li;obtain⟨hk,hc⟩:=Xy n l;obtain⟨hv,BF⟩:=rL h.vk h.BJ l;refine⟨?_,fun m hm=>⟨O.ls m hm,fun e=>absurd e (hk m hm).1,fun e=>absurd e (hk m hm).2⟩⟩;rcases hc with k|⟨c1,c2,c3,c4,e⟩|⟨c1,c2,c3,c4,e⟩
  .exact k.pn h O.nd hv BF
  .have hN:=O.nd;rw[e]at hN hv BF ⊢;refine⟨hN,h.up,h.Zr,h.YY,fun p hq=>?_,?_,h.Kn,h.Z5,h.Yk,h.may,hv,BF⟩
   .obtain rfl:Ny.Q8 ⟨l.b,n.Zr.l⟩ l.JA l.b n.Zr.l=p:=Option.some.inj hq;exact⟨hl.Q8 c1,UX c2,fun v hv=>Xs (h.YY v hv) (UX c2)⟩
   .have:=h.tape;show 0<=n.Y5/\n.Y5<=((n.data++YS (JF l.b)).length:Nat)
    rw[au];omega
  .have hN:=O.nd;rw[e]at hN hv BF ⊢;refine⟨hN,h.up,h.Zr,h.YY,fun p hq=>?_,?_,h.Kn,h.Z5,h.Yk,h.may,hv,BF⟩
   .obtain rfl:Ny.Wo ⟨l.v.b,Jh n.Zr.l l.v⟩ l.JA l.v=p:=Option.some.inj hq;refine⟨hl.ask c1,UY c2,fun v hv=>?_⟩;have hv:v∈Jh n.Zr.l l.v:=hv;show ¬Zw l.v.b v.b;unfold Jh at hv;rcases an.1 hv with hv|hv
    .exact Xs (h.YY v (aw.1 hv).1) (UY c2)
    .rcases aX.1 hv with rfl|hv
     .exact YR _
     .exact Xs (h.YY v (aw.1 hv).1) (UY c2)
   .have:=h.tape;show 0<=n.Y5/\n.Y5<=((n.data++YS (Uc l.v)).length:Nat)
    rw[au];omega
 .obtain⟨d1,d2,_⟩:=jr hX hC h.ni;obtain⟨D,hA⟩:=Xh hp h.Yk;refine⟨⟨d1,by rw[D.up];exact h.up,by rw[D.Zr];exact h.Zr,by rw[D.Zr];exact h.YY,fun p hq=>?_,?_,fun hx r' hr=>?_,fun hx=>?_,fun r' hr dO s=>?_,fun r' hr=>?_,fun r' hr t ht=>?_,by rw[D.Zi,D.ZI];exact h.BJ⟩,fun l hl=>⟨d2 l hl,fun e=>?_,fun e=>?_⟩⟩
  .rcases D.Zp with⟨e,_⟩|⟨r,hr,c1,c2,_,e⟩
   .rw[e]at hq;cases hq
   .rw[e]at hq;obtain rfl:=Option.some.inj hq;rw[D.Zr];rw[if_pos (h.pr0 (h.may r hr) (Tj c1))];exact⟨h.le hr,Tj c1,fun v hv=>Xs (h.YY v hv) (Tj c1)⟩
  .rw[D.Y5];have:=h.tape;rcases D.Zp with⟨_,e⟩|⟨r,_,_,_,e,_⟩
   .rw[e];exact this
   .rw[e,au];omega
  .rcases D.Kn with⟨_,e⟩|⟨_,_,_,e⟩|⟨r,r2,h1,_,e,k,_,_,_⟩
   .rw[e]at hr;cases hr
   .rw[e]at hr;cases hr
   .rw[e]at hr;obtain rfl:=Option.some.inj hr;rw[k.b];exact h.Kn hx r h1
  .obtain⟨r,h1,h2⟩:=h.Z5 hx;rcases D.Kn with⟨e,_⟩|⟨r2,e,q,_⟩|⟨r2,r3,e,q,e3,k,_,_,_⟩
   .rw[e]at h1;cases h1
   .rw[e]at h1;obtain rfl:=Option.some.inj h1;rw[h2]at q;exact absurd q h.Zr
   .rw[e]at h1;obtain rfl:=Option.some.inj h1;exact⟨r3,e3,by rw[k.b,h2]⟩
  .rcases D.Kn with⟨_,e⟩|⟨_,_,_,e⟩|⟨r,r2,h1,_,e,_,k,_,_⟩
   .rw[e]at hr;cases hr
   .rw[e]at hr;cases hr
   .rw[e]at hr;obtain rfl:=Option.some.inj hr;rcases k with rfl|k
    .exact h.Yk _ h1 dO s
    .rw[k]at dO;cases dO
  .rcases D.Kn with⟨_,e⟩|⟨_,_,_,e⟩|⟨r,r2,h1,_,e,k,_,_,_⟩
   .rw[e]at hr;cases hr
   .rw[e]at hr;cases hr
   .rw[e]at hr;obtain rfl:=Option.some.inj hr;rw[k.b];exact h.may r h1
  .rcases D.Kn with⟨_,e⟩|⟨_,_,_,e⟩|⟨r,r2,h1,_,e,_,_,k,_⟩
   .rw[e]at hr;cases hr
   .rw[e]at hr;cases hr
   .rw[e]at hr;obtain rfl:=Option.some.inj hr;rw[k]at ht;rw[D.Zi];exact h.vk r h1 t ht
  .obtain⟨r,h1,_,_,h2,_⟩:=hA l hl (.inl e);rw[h2 e];exact h.le h1
  .obtain⟨r,h1,_,_,_,h2,_⟩:=hA l hl (.inr e);rw[h2 e];exact h.le h1
 .obtain⟨f1,f2,f3,f4,_⟩:=Fe hX (Fc h.ni) (h.ni.Zp p hp);have Pv:=h.pnd p hp;refine⟨?_,fun m hm=>⟨f2 m hm,fun e=>?_,fun e=>?_⟩⟩
  .have ht:0<=(ZJ n).Y5/\(ZJ n).Y5<=(ZJ n).data.length:=by
    show 0<=(if YT n.data n.Y5 then ((U n.data):Int) else 0)/\(if YT n.data n.Y5 then ((U n.data):Int) else 0)<=((if YT n.data n.Y5 then n.data else []).length:Nat)
    split<;>simp
   cases p with
   | Q8 a to b' vs=>exact⟨f1,h.up,Pv.1,Pv.2.2,(fun q hq=>by cases hq),ht,h.Kn,h.Z5,h.Yk,h.may,h.vk.same rfl rfl,h.BJ⟩
   | Wo a to v=>exact⟨f1,h.up,Pv.1,Pv.2.2,(fun q hq=>by cases hq),ht,h.Kn,h.Z5,h.Yk,h.may,h.vk.same rfl rfl,h.BJ⟩
   | Zr a vs cur=>
    have tO:∀r',(Yp (ZJ n) (.Zr a vs cur)).n.Zh=ak r'->∃r,n.Zh=ak r/\Vq r r'/\r'.YY=r.YY:=fun r' hr=>by
     have hr:(if cur=true then n.Zh.map (fun r=>{ r with ZL:=ins r.ZL n.me vs }) else n.Zh)=ak r':=hr;split at hr
     .cases e:n.Zh with
      | none=>rw[e]at hr;cases hr
      | some r=>
       rw[e]at hr;obtain rfl:=Option.some.inj hr;exact⟨r,rfl,⟨⟨rfl,fun _ _ h=>h,fun h=>h,fun k h=>Has.ins h _ _,fun _ _ h=>h⟩,rfl,rfl⟩,rfl⟩
     .exact⟨r',hr,Vq.refl r',rfl⟩
    refine⟨f1,h.up,Pv.1,Pv.2.2,(fun q hq=>by cases hq),ht,fun hx r' hr=>?_,fun hx=>?_,fun r' hr dO s=>?_,fun r' hr=>?_,fun r' hr t ht=>?_,h.BJ⟩
    .obtain⟨r,h1,h2,_⟩:=tO r' hr;rw[h2.k.b];exact h.Kn hx r h1
    .obtain⟨r,h1,h2⟩:=h.Z5 hx;show ∃r,(if cur=true then n.Zh.map (fun r=>{ r with ZL:=ins r.ZL n.me vs }) else n.Zh)=ak r/\r.b=b;rw[h1];split
     .exact⟨_,rfl,h2⟩
     .exact⟨r,rfl,h2⟩
    .obtain⟨r,h1,h2,_⟩:=tO r' hr;rw[h2.p];exact h.Yk r h1 (by rw[<-h2.g];exact dO) s
    .obtain⟨r,h1,h2,_⟩:=tO r' hr;rw[h2.k.b];exact h.may r h1
    .obtain⟨r,h1,_,h3⟩:=tO r' hr;rw[h3]at ht;exact h.vk r h1 t ht
  .cases p with
   | Q8 a to b' vs=>rw[aa.1 hm]at e;cases e
   | Wo a to v=>rw[aa.1 hm]at e;cases e
   | Zr a vs cur=>cases hm
  .cases p with
   | Q8 a to b' vs=>rw[aa.1 hm]at e;cases e
   | Wo a to v=>rw[aa.1 hm]at e;cases e
   | Zr a vs cur=>cases hm
end
structure PW(C:List Cm)(b:Yg)(L:Nat)(w:Wd):Prop where
 nd:∀X,X<5->PN C b L X (w.Zc X)
 TA:∀l∈w.Zm,PJ C b l
 QD:∀X,X<5->∀l∈(w.Zc X).Zf,PJ C b l
section
variable {C:List Cm} {b:Yg} {L:Nat} {w:Wd}
def OY(h:PW C b L w)(hC:(U C)<=100000)(hb:ZC b)(hX:X<5):PN C b L X (step (w.Zc X)).n/\(∀m∈(step (w.Zc X)).ls,PJ C b m)/\∀l∈(step (w.Zc X)).n.Zf,l∈(w.Zc X).Zf:=
 Rj (JT hX hC hb) (h.nd X hX).up (h.nd X hX) (h.QD X hX)
def ZdU(h:PW C b L w)(hC:(U C)<=100000)(hb:ZC b):∀l∈Jq w,PJ C b l:=fun l hl=>by
 rcases QY.1 hl with q|⟨i,hi,q⟩
 .exact h.TA l q
 .exact (OY h hC hb hi).2.1 l q
def jR(h:PW C b L w)(hC:(U C)<=100000)(hb:ZC b):PW C b L (DN w):=by
 refine⟨fun X hX=>?_,fun l hl=>(by rw[Bo]at hl;cases hl),fun X hX l hl=>?_⟩
 .rw[J7 w X hX (h.nd X hX).up];exact (JT hX hC hb).box _ _ (OY h hC hb hX).1
 .rcases (RU hX (h.nd X hX).up).1 hl with q|⟨q,_⟩
  .exact h.QD X hX l ((OY h hC hb hX).2.2 l q)
  .exact ZdU h hC hb l q
def dg(h:PW C b L w)(hC:(U C)<=100000)(hb:ZC b)(hX:X<5){A G:Yn->Prop}{E F:Nd->Prop}(H:Ou (PN C b L X) (PJ C b) A G E F)(hs:Src A E F (w.Zc X)):
  (Src A E F ((DN w).Zc X)\/∃m∈Jq w,G m)/\(WS (w.Zc X)->E ((DN w).Zc X)\/∃m∈Jq w,G m):=by
 have hu:=(h.nd X hX).up;obtain⟨h1,h2⟩:=Zan (JT hX hC hb) H hu (h.nd X hX) (h.QD X hX) hs;have hm:(∃m∈(step (w.Zc X)).ls,G m)->∃m∈Jq w,G m:=fun⟨m,q1,q2⟩=>⟨m,QY.2 (.inr ⟨X,hX,q1⟩),q2⟩
 rw[J7 w X hX hu];refine⟨?_,fun hf=>?_⟩
 .rcases h1 with (q|q|⟨l,hl,q⟩)|q
  .exact .inl (.inl (H.Mq _ _ q))
  .exact .inl (.inr (.inl (H.Zam _ _ q)))
  .exact .inl (.inr (.inr ⟨l,an.2 (.inl hl),q⟩))
  .exact .inr (hm q)
 .rcases h2 hf with q|q
  .exact .inl (H.Mq _ _ q)
  .exact .inr (hm q)
def jS{A:Yn->Prop}{E F:Nd->Prop}{Y:Nat}(hY:Y<5)(hu:(w.Zc Y).up=true)(h:∃m∈Jq w,A m)(ht:∀m,A m->m.to.toNat=Y):Src A E F ((DN w).Zc Y):=by
 obtain⟨m,q1,q2⟩:=h;exact .inr (.inr ⟨m,(RU hY hu).2 (.inr ⟨q1,ht m q2⟩),q2⟩)
end
def Full(n:Nd):Prop:=99900<(U n.data)
section
variable {C:List Cm} {b:Yg} {L X:Nat}
def dh(h:PN C b L X n):(ZJ n).data=n.data/\(ZJ n).Y5=(U n.data):=by
 have ht:YT n.data n.Y5:=⟨h.ni.data,h.tape.1,h.tape.2⟩
 refine⟨?_,?_⟩
 .show (if YT n.data n.Y5 then n.data else [])=n.data;rw[if_pos ht]
 .show (if YT n.data n.Y5 then ((U n.data):Int) else 0)=(U n.data);rw[if_pos ht]
def di(h:PN C b L X n)(p:Ny):(Yp (ZJ n) p).n.data=n.data:=by
 cases p<;>exact (dh h).1
def Full.hnd(h:Full n)(l:Yn):Full (Zx n l).n:=by
 rcases (Xy n l).2 with k|⟨_,_,_,_,e⟩|⟨_,_,_,_,e⟩
 .unfold Full;rw[k.data];exact h
 .rw[e];unfold Full Zmx;simp only[au];unfold Full at h;omega
 .rw[e];unfold Full Zmy;simp only[au];unfold Full at h;omega
def Full.dty(h:Full n)(D:Ey n (YH n).n):Full (YH n).n:=by
 unfold Full at h ⊢;rcases D.Zp with⟨_,e⟩|⟨_,_,_,_,e,_⟩
 .rw[e];exact h
 .rw[e,au];omega
def Full.fin(hf:Full n)(h:PN C b L X n)(p:Ny):Full (Yp (ZJ n) p).n:=by
 unfold Full;rw[di h];exact hf
def dj(h:PN C b L X n){k:Nat}(hk:k<=33)(hq:JX n.data n.Y5 k≠0):Full n:=by
 have ht:YT n.data n.Y5:=⟨h.ni.data,h.tape.1,h.tape.2⟩
 unfold JX at hq;rw[if_neg (fun q=>q ht)]at hq;unfold Full;split at hq
 .omega
 .exact absurd rfl hq
def dk(h:PN C b L X n){c:Yg}(hc:ZC c)(hq:Jn n.data n.Y5 c≠0):Full n:=by
 have ht:YT n.data n.Y5:=⟨h.ni.data,h.tape.1,h.tape.2⟩
 unfold Jn at hq;rw[if_neg (fun q=>q ht),if_neg (fun q=>q hc)]at hq;exact dj h mD hq
def Zap(h:PN C b L X n){v:Vt}(hv:Yu v)(hq:Qn n.data n.Y5 v≠0):Full n:=by
 have ht:YT n.data n.Y5:=⟨h.ni.data,h.tape.1,h.tape.2⟩
 unfold Qn at hq;rw[if_neg (fun q=>q ht),if_neg (fun q=>q hv)]at hq;exact dj h mD hq
def Zaq(hb:ZC b):Ou (PN C b L X) (PJ C b) (fun l=>l.ZH=0/\l.b=b/\l.JA=L) (fun m=>m.ZH=1/\m.b=b/\m.JA=X/\m.to=L) Full (fun n=>∃a vs,n.Zp=ak (.Q8 a L b vs)):=by
 refine⟨fun n k h=>h,fun n l _ _ _ h=>h.hnd l,fun n h hp hf=>hf.dty (Xh hp h.Yk).1,fun n p h hp hf=>hf.fin h p,fun n k h=>h,fun n ⟨a,vs,h⟩ e=>(by rw[e]at h;cases h),fun n p h hp ⟨a,vs,hq⟩=>?_,fun n l h hp hl ⟨k0,k1,k2⟩=>?_⟩
 .rw[hq]at hp;obtain rfl:=Option.some.inj hp;exact .inr ⟨_,aa.2 rfl,rfl,rfl,by show ((ZJ n).me:Int)=X;rw[show (ZJ n).me=n.me from rfl,h.ni.me],rfl⟩
 .have e:Zx n l=Y3 n l:=by unfold Zx;rw[if_pos k0]
  rw[e];unfold Y3;rw[k1,k2,if_neg (by rw[h.pr0 hb h.Zr];simp)];by_cases q1:n.Zr.p=b
  .rw[if_pos q1];exact .inr (.inr ⟨_,aa.2 rfl,rfl,rfl,by show (n.me:Int)=X;rw[h.ni.me],rfl⟩)
  .rw[if_neg q1];by_cases q2:Jn n.data n.Y5 b=0
   .rw[if_neg (by simp[q2])];exact .inr (.inl ⟨_,_,rfl⟩)
   .rw[if_pos q2];exact .inl (dk h hb q2)
def ZdV(hr:n.Zh=ak r)(l:Yn):∃r',(Zx n l).n.Zh=ak r'/\Vq r r':=by
 rcases (Xy n l).2 with k|⟨_,_,_,_,e⟩|⟨_,_,_,_,e⟩
 .exact k.on hr
 .rw[e];exact⟨r,hr,Vq.refl r⟩
 .rw[e];exact⟨r,hr,Vq.refl r⟩
def mm(h:PN C b L L n)(hp:n.Zp=al)(hr:n.Zh=ak r):∃r',(YH n).n.Zh=ak r'/\X7 r r':=by
 obtain⟨r0,h1,h2⟩:=h.Z5 rfl;rw[hr]at h1;obtain rfl:=Option.some.inj h1;rcases (Xh hp h.Yk).1.Kn with⟨e,_⟩|⟨r2,e,q,_⟩|⟨r2,r3,e,_,e3,k,_,_,_⟩
 .rw[e]at hr;cases hr
 .rw[e]at hr;obtain rfl:=Option.some.inj hr;rw[h2]at q;exact absurd q h.Zr
 .rw[e]at hr;obtain rfl:=Option.some.inj hr;exact⟨r3,e3,k⟩
def ZdW(hr:n.Zh=ak r)(p:Ny):∃r',(Yp (ZJ n) p).n.Zh=ak r'/\X7 r r':=by
 cases p with
 | Q8 a to b' vs=>exact⟨r,hr,X7.refl r⟩
 | Wo a to v=>exact⟨r,hr,X7.refl r⟩
 | Zr a vs cur=>
  show ∃r',(if cur=true then n.Zh.map (fun r=>{ r with ZL:=ins r.ZL n.me vs }) else n.Zh)=ak r'/\X7 r r';rw[hr];split
  .exact⟨_,rfl,⟨rfl,fun _ _ h=>h,fun h=>h,fun k h=>Has.ins h _ _,fun _ _ h=>h⟩⟩
  .exact⟨r,rfl,X7.refl r⟩
def Bq(Q:XM->Prop)(n:Nd):Prop:=∃r,n.Zh=ak r/\Q r
def FF{Q:XM->Prop}(hQ:∀r r',X7 r r'->Q r->Q r'){A G:Yn->Prop}(hit:∀n l,PN C b L L n->n.Zp=al->PJ C b l->A l->Bq Q (Zx n l).n):Ou (PN C b L L) (PJ C b) A G (Bq Q) (fun _=>False):=by
 refine⟨fun n k h=>h,fun n l _ _ _ ⟨r,h1,h2⟩=>?_,fun n h hp ⟨r,h1,h2⟩=>?_,fun n p h hp ⟨r,h1,h2⟩=>?_,fun n k h=>h,fun n h=>h.elim,fun n p _ _ h=>h.elim,fun n l h hp hl hA=>.inl (hit n l h hp hl hA)⟩
 .obtain⟨r',e,k⟩:=ZdV h1 l;exact⟨r',e,hQ r r' k.k h2⟩
 .obtain⟨r',e,k⟩:=mm h hp h1;exact⟨r',e,hQ r r' k h2⟩
 .obtain⟨r',e,k⟩:=ZdW h1 p;exact⟨r',e,hQ r r' k h2⟩
def rM{G:Yn->Prop}:Ou (PN C b L L) (PJ C b) (fun m=>m.ZH=1/\m.b=b/\m.JA=X/\m.to=L) G (Bq fun r=>Has r.ZL X) (fun _=>False):=by
 refine FF (fun r r' k h=>k.ZL _ h) (fun n l h hp hl ⟨k0,k1,k2,_⟩=>?_);obtain⟨r,h1,h2⟩:=h.Z5 rfl;have e:Zx n l=Yx n l:=by unfold Zx;rw[if_neg mD,if_pos (.inl k0)]
 rw[e];unfold Yx;rw[h1];simp only;rw[if_pos k0,if_pos (by rw[k1,h2])];refine⟨_,rfl,?_⟩;show Has (ins r.ZL l.JA l.vs) X;rw[k2];exact Has.now _ _ _
end
def PN.ac0{C:List Cm}{b:Yg}{L:Nat}(h:PN C b L X n){v:Vt}(hv:Yu v)(hle:¬Zw v.b n.Zr.p):Xc n.Zr.p n.Zr.l v=0:=by
 unfold Xc;rw[if_neg (by rw[Ri h.ni.Zr h.YY];simp),if_neg (fun q=>q hv),if_neg hle]
def Laws.and{I:Nd->Prop}{J K:Yn->Prop}{E:Nd->Prop}(W:Laws I J K)(e1:∀n k,E n->E { n with Zf:=k })(e2:∀n l,I n->n.Zp=al->J l->E n->E (Zx n l).n)(e3:∀n,I n->n.Zp=al->E n->E (YH n).n)(e4:∀n p,I n->n.Zp=ak p->E n->E (Yp (ZJ n) p).n):Laws (fun n=>I n/\E n) J K:=
 ⟨fun n k h=>⟨W.box n k h.1,e1 n k h.2⟩,fun n l h hp hl=>⟨⟨(W.hnd n l h.1 hp hl).1,e2 n l h.1 hp hl h.2⟩,(W.hnd n l h.1 hp hl).2⟩,fun n h hp=>⟨⟨(W.dty n h.1 hp).1,e3 n h.1 hp h.2⟩,(W.dty n h.1 hp).2⟩,fun n p h hp=>⟨⟨(W.fin n p h.1 hp).1,e4 n p h.1 hp h.2⟩,(W.fin n p h.1 hp).2⟩⟩
def Br(n:Nd)(l:Yn):Tp n (Zx n l).n:=by
 rcases (Xy n l).2 with k|⟨_,_,_,_,e⟩|⟨_,_,_,_,e⟩
 .exact k.go
 .rw[e];exact .same rfl rfl rfl rfl rfl
 .rw[e];exact .same rfl rfl rfl rfl rfl
def Bt(n:Nd)(p:Ny):Tp n (Yp (ZJ n) p).n:=by
 cases p<;>exact .same rfl rfl rfl rfl rfl
section
variable {C:List Cm} {b:Yg} {L X Y:Nat} {G:Yn->Prop}
def rN{s:Int}{x:Cm}(hv:Yu (QJ s b x)):Ou (PN C b L X) (PJ C b) (fun l=>l.ZH=2/\l.v=QJ s b x/\l.JA=L) (fun m=>m.ZH=3/\m.v=QJ s b x/\m.JA=X/\m.to=L) Full (fun n=>∃a,n.Zp=ak (.Wo a L (QJ s b x))):=by
 refine⟨fun n k h=>h,fun n l _ _ _ h=>h.hnd l,fun n h hp hf=>hf.dty (Xh hp h.Yk).1,fun n p h hp hf=>hf.fin h p,fun n k h=>h,fun n ⟨a,h⟩ e=>(by rw[e]at h;cases h),fun n p h hp ⟨a,hq⟩=>?_,fun n l h hp hl ⟨k0,k1,k2⟩=>?_⟩
 .rw[hq]at hp;obtain rfl:=Option.some.inj hp;exact .inr ⟨_,aa.2 rfl,rfl,rfl,by show ((ZJ n).me:Int)=X;rw[show (ZJ n).me=n.me from rfl,h.ni.me],rfl⟩
 .have e:Zx n l=asked n l:=by
   unfold Zx;rw[if_neg mD,if_neg mD,if_pos k0]
  rw[e];unfold asked;rw[k1,k2,if_neg (by rw[h.ac0 hv h.Zr];simp)];by_cases q1:QJ s b x∈n.Zr.l
  .rw[if_pos q1];exact .inr (.inr ⟨_,aa.2 rfl,rfl,rfl,by show (n.me:Int)=X;rw[h.ni.me],rfl⟩)
  .rw[if_neg q1];by_cases q2:Qn n.data n.Y5 (QJ s b x)=0
   .rw[if_neg (by simp[q2])];exact .inr (.inl ⟨_,rfl⟩)
   .rw[if_pos q2];exact .inl (Zap h hv q2)
def dm{s:Int}{x:Cm}:Ou (PN C b L L) (PJ C b) (fun m=>m.ZH=3/\m.v=QJ s b x/\m.JA=X/\m.to=L) G (Bq fun r=>jO r s X) (fun _=>False):=by
 refine FF (fun r r' k h=>k.YY _ _ h) (fun n l h hp hl ⟨k0,k1,k2,_⟩=>?_);obtain⟨r,h1,h2⟩:=h.Z5 rfl;have e:Zx n l=Yx n l:=by unfold Zx;rw[if_neg mD,if_pos (.inr k0)]
 rw[e];unfold Yx;rw[h1];simp only;have hb:l.v.b=b:=by rw[k1];rfl
 have hs:l.v.Zs=s:=by rw[k1];rfl
 rw[if_neg mD,if_neg (by rw[hb,h2];simp)];have hV:jO { r with YY:=ins r.YY l.v.Zs (Qp r l) } s X:=by
  show Has ((Yl (ins r.YY l.v.Zs (Qp r l)) s).getD []) X;rw[Xl,if_pos hs];show Has (Qp r l) X;unfold Qp;rw[k2];exact Has.now _ _ _
 split
 .obtain⟨k,_,_⟩:=Qe (Ta n r l) l.v.Zs l.v.cm;obtain⟨r',e1,e2⟩:=k.on (r:={ r with YY:=ins r.YY l.v.Zs (Qp r l) }) rfl;exact⟨r',e1,e2.k.YY _ _ hV⟩
 .exact⟨_,rfl,hV⟩
def rO{j:Int}(h:Has n.Zi j)(l:Yn):Has (Zx n l).n.Zi j:=(Br n l).Zi j h
def rP{j:Int}(h:Has n.Zi j)(hp:n.Zp=al)(hn:PN C b L X n):Has (YH n).n.Zi j:=by rw[(Xh hp hn.Yk).1.Zi];exact h
def rQ{j:Int}(h:Has n.Zi j)(p:Ny):Has (Yp (ZJ n) p).n.Zi j:=(Bt n p).Zi j h
def Hq(h:PN C b L X n){p:Ny}(hp:n.Zp=ak p):(Yp (ZJ n) p).n.Zr=XW p:=by
 cases p<;>rfl
def Wv:(∀n l,PN C b L X n->n.Zr.p=b->(Zx n l).n.Zr.p=b)/\(∀n,PN C b L X n->n.Zp=al->n.Zr.p=b->(YH n).n.Zr.p=b)/\∀n p,PN C b L X n->n.Zp=ak p->n.Zr.p=b->(Yp (ZJ n) p).n.Zr.p=b:=by
 refine⟨fun n l h e=>?_,fun n h hp e=>by rw[(Xh hp h.Yk).1.Zr];exact e,fun n p h hp e=>?_⟩
 .rcases (Xy n l).2 with k|⟨_,_,_,_,q⟩|⟨_,_,_,_,q⟩
  .rw[k.Zr];exact e
  .rw[q];exact e
  .rw[q];exact e
 .rw[Hq h hp];obtain⟨h1,h2,_⟩:=h.pnd p hp;rw[e]at h2;exact UV h2 h1
def Zar{A:Yn->Prop}(hit:∀n l,PN C b L X n->n.Zp=al->PJ C b l->A l->(n.Zr.p=b\/Full n)\/∃p,(Zx n l).n.Zp=ak p/\(XW p).p=b):Ou (PN C b L X) (PJ C b) A G (fun n=>n.Zr.p=b\/Full n) (fun n=>∃p,n.Zp=ak p/\(XW p).p=b):=by
 obtain⟨o1,o2,o3⟩:=Wv (C:=C) (b:=b) (L:=L) (X:=X);have stay:∀n l,PN C b L X n->n.Zr.p=b\/Full n->(Zx n l).n.Zr.p=b\/Full (Zx n l).n:=fun n l h q=>by
  rcases q with q|q
  .exact .inl (o1 n l h q)
  .exact .inr (q.hnd l)
 refine⟨fun n k h=>h,fun n l h _ _ q=>stay n l h q,fun n h hp q=>?_,fun n p h hp q=>?_,fun n k h=>h,fun n ⟨p,h,_⟩ e=>(by rw[e]at h;cases h),fun n p h hp ⟨p',hq,e⟩=>?_,fun n l h hp hl hA=>?_⟩
 .rcases q with q|q
  .exact .inl (o2 n h hp q)
  .exact .inr (q.dty (Xh hp h.Yk).1)
 .rcases q with q|q
  .exact .inl (o3 n p h hp q)
  .exact .inr (q.fin h p)
 .rw[hq]at hp;obtain rfl:=Option.some.inj hp;exact .inl (.inl (by rw[Hq h hq];exact e))
 .rcases hit n l h hp hl hA with q|q
  .exact .inl (stay n l h q)
  .exact .inr (.inl q)
def WT:∀(k:List Yn) (n:Nd),(Zy n k).n.Zp=al->Xt n (Zy n k).n:=by
 intro k
 induction k with
 | nil=>intro n _;unfold Zy;exact⟨.same rfl rfl rfl rfl rfl,rfl,rfl,rfl,rfl,Uw.refl _⟩
 | cons l k ih=>
  intro n h;unfold Zy at h ⊢;by_cases hp:n.Zp.isSome=true
  .rw[if_pos hp]at h ⊢;exact⟨.same rfl rfl rfl rfl rfl,rfl,rfl,rfl,rfl,Uw.refl _⟩
  .rw[if_neg hp]at h ⊢;have h:(Zy (Zx { n with Zf:=k } l).n k).n.Zp=al:=h;have K:=ih _ h;have hq:(Zx { n with Zf:=k } l).n.Zp=al:=by rw[<-K.Zp];exact h
   have hn:Xt n { n with Zf:=k }:=⟨.same rfl rfl rfl rfl rfl,rfl,rfl,rfl,rfl,Uw.refl _⟩
   rcases (Xy { n with Zf:=k } l).2 with q|⟨_,_,_,_,e⟩|⟨_,_,_,_,e⟩
   .exact (hn.trans q).trans K
   .rw[e]at hq;cases hq
   .rw[e]at hq;cases hq
def OZ(h:PN C b L L n)(hp:n.Zp=al)(hr:n.Zh=ak r):r.b=b/\Z1 (Zo n)=Jf n r:=by
 obtain⟨r0,h1,h2⟩:=h.Z5 rfl;rw[hr]at h1;obtain rfl:=Option.some.inj h1;refine⟨h2,?_⟩;rcases UJ n with⟨e,_⟩|⟨r1,e,q,_⟩|⟨r1,e,q,e2⟩
 .rw[e]at hr;cases hr
 .rw[e]at hr;obtain rfl:=Option.some.inj hr;rw[h2]at q;exact absurd q h.Zr
 .rw[e2];unfold Z1;rw[hr]
def mo{l:Yn}(h:l∈(Z1 (Zo n)).ls):l∈(YH n).ls:=by
 unfold YH;split
 .exact h
 .exact an.2 (.inl h)
def LG:(YH n).n.Zh=(Z1 (Zo n)).n.Zh/\(YH n).n.Zp=(Z1 (Zo n)).n.Zp/\(YH n).n.data=(Z1 (Zo n)).n.data:=by
 unfold YH;split
 .exact⟨rfl,rfl,rfl⟩
 .exact⟨rfl,rfl,rfl⟩
def Zas(h:PN C b L L n)(hp:n.Zp=al)(hb:n.Zr.p≠b):Full n\/∃p,(YH n).n.Zp=ak p/\(XW p).p=b:=by
 obtain⟨r,hr,_⟩:=h.Z5 rfl;obtain⟨h2,e⟩:=OZ h hp hr;have ZV:Zw n.Zr.p r.b:=by
  rw[h2];by_cases q:Zw n.Zr.p b
  .exact q
  .exact absurd (UV q h.Zr) hb
 have hm:=h.may r hr;rw[LG.2.1,e];unfold Jf;rw[if_pos ZV];by_cases q:Jn n.data n.Y5 r.b=0
 .rw[if_neg (by simp[q])];refine .inr ⟨_,rfl,?_⟩;show (if YF n.Zr.p n.Zr.l r.b=0 then (⟨r.b,n.Zr.l⟩:Qo) else JG).p=b;rw[if_pos (h.pr0 hm (Tj ZV)),<-h2]
 .exact .inl (dk h hm q)
def rR(h:PN C b L L n)(hp:n.Zp=al)(hb:n.Zr.p=b)(hr:n.Zh=ak r)(hq:¬5<2*r.ZL.length){m:Nat}(hm:m<5)(hn:¬Has r.ZL m):(⟨0,L,m,b,SC,[]⟩:Yn)∈(YH n).ls:=by
 obtain⟨h2,e⟩:=OZ h hp hr;refine mo ?_;rw[e];unfold Jf;rw[if_neg (by rw[hb,h2];exact YR _),if_pos hq];unfold RM;refine aF.2 ⟨m,a4.2 hm,?_⟩;rw[if_pos (by unfold Has at hn;simpa using hn),h2,h.ni.me];exact aa.2 rfl
def dp(h:PN C b L L n)(hp:n.Zp=al)(hb:n.Zr.p=b)(hr:n.Zh=ak r)(hq:5<2*r.ZL.length):(YH n).n.Zh=ak (Xi n r) /\
  ∀(s:Nat) x (m:Nat),s<40->Yl (Xi n r).Yj s=ak x->Yl n.Zi s=al->m<5->¬jO r s m->(⟨2,L,m,X2,QJ s b x,[]⟩:Yn)∈(YH n).ls:=by
 obtain⟨h2,e⟩:=OZ h hp hr;have er:Jf n r=⟨{ n with Zh:=ak (Xi n r) },U8 n (Xi n r),[]⟩:=by
  unfold Jf;rw[if_neg (by rw[hb,h2];exact YR _),if_neg mD]
 refine⟨by rw[LG.1,e,er],fun s x m hs hx hk hm hv=>mo ?_⟩;rw[e,er];show _∈U8 n (Xi n r);unfold U8;refine aF.2 ⟨s,a4.2 hs,?_⟩;unfold UM;rw[hx];simp only;rw[if_pos hk];refine aF.2 ⟨m,a4.2 hm,?_⟩;unfold S7;have hbk:(Xi n r).b=b:=by rw[(UI n r (h.Yk r hr)).1.b,h2]
 rw[(Rk n r).1,if_pos (by unfold jO Has at hv;simpa using hv),hbk,h.ni.me];exact aa.2 rfl
def jT(n:Nd):(Z1 (Zo n)).n.Yw=n.Yw/\(Z1 (Zo n)).n.ZI=n.ZI/\(Z1 (Zo n)).n.me=n.me:=by
 have hs:(Zo n).Yw=n.Yw/\(Zo n).ZI=n.ZI/\(Zo n).me=n.me:=by
  rcases UJ n with⟨_,e⟩|⟨_,_,_,e⟩|⟨_,_,_,e⟩<;>rw[e]<;>exact⟨rfl,rfl,rfl⟩
 have hd:(Z1 (Zo n)).n.Yw=(Zo n).Yw/\(Z1 (Zo n)).n.ZI=(Zo n).ZI/\(Z1 (Zo n)).n.me=(Zo n).me:=by
  unfold Z1;split
  .unfold Jf
   repeat' split
   all_goals exact⟨rfl,rfl,rfl⟩
  .split<;>exact⟨rfl,rfl,rfl⟩
 exact⟨by rw[hd.1,hs.1],by rw[hd.2.1,hs.2.1],by rw[hd.2.2,hs.2.2]⟩
def rS(hq:(YH n).n.Zp=al):(YH n).n.Yw=(n.Yw+1)%5/\((YH n).n.Yw≠n.me->n.ZI.length<40->∃bb,(⟨5,n.me,(YH n).n.Yw,bb,QJ n.ZI.length X2 dQ,[]⟩:Yn)∈(YH n).ls):=by
 obtain⟨t1,t2,t3⟩:=jT n;have hp:(Z1 (Zo n)).n.Zp=al:=by rw[<-LG.2.1];exact hq
 have e:YH n=⟨Je (Z1 (Zo n)).n,(Z1 (Zo n)).ls++QU (Je (Z1 (Zo n)).n),[]⟩:=by
  unfold YH;rw[if_neg (by rw[hp];decide)]
 have et:(YH n).n.Yw=(n.Yw+1)%5:=by
  rw[e];show ((Z1 (Zo n)).n.Yw+1)%5=_;rw[t1]
 refine⟨et,fun h1 h2=>?_⟩;rw[et]at h1 ⊢;rw[e];refine⟨Uo (Je (Z1 (Zo n)).n),an.2 (.inr ?_)⟩;unfold QU;have q1:(Je (Z1 (Zo n)).n).Yw=(n.Yw+1)%5:=by
  show ((Z1 (Zo n)).n.Yw+1)%5=_;rw[t1]
 have q2:(Je (Z1 (Zo n)).n).ZI=n.ZI:=t2;have q3:(Je (Z1 (Zo n)).n).me=n.me:=t3;rw[q1,q2,q3,if_pos ⟨h1,h2⟩];exact aa.2 rfl
end
def Occ(n:Nd)(r:XM)(t:Nat):Prop:=Has r.Yj t\/Has n.Zi t
def dq{x:Cm}:∀(k s t:Nat),(∀u,u<s->Occ n r u)->JZ n r x k s=ak t->∀u,u<t->Occ n r u:=by
 intro k
 induction k with
 | zero=>intro s t _ hn;cases hn
 | succ k ih=>
  intro s t h hn;unfold JZ at hn;by_cases q1:Yl r.Yj (s:Int)=ak x\/Yl n.Zi (s:Int)=ak x
  .rw[if_pos q1]at hn;cases hn
  .rw[if_neg q1]at hn;by_cases q2:Yl r.Yj (s:Int)=al/\Yl n.Zi (s:Int)=al
   .rw[if_pos q2]at hn;obtain rfl:=Option.some.inj hn;exact h
   .rw[if_neg q2]at hn;refine ih (s+1) t (fun u hu=>?_) hn;by_cases e:u=s
    .rw[e];unfold Occ Has;by_cases q:Yl r.Yj (s:Int)=al
     .exact .inr fun e=>q2 ⟨q,e⟩
     .exact .inl q
    .exact h u mD
def rT{β:Type}{l:List (Int × β)}(h:∀X:Nat,X<5->X≠9->Has l X):5<2*(U l):=by
 have:=UW (l:=[(0:Int),1,2,3,4]) (C:=l.map (·.1)) KC (fun x hx=>by
  have:∃X:Nat,X<5/\x=X:=by
   simp only[aX,br,or_false]at hx;rcases hx with rfl|rfl|rfl|rfl|rfl
   .exact⟨0,mD,rfl⟩
   .exact⟨1,mD,rfl⟩
   .exact⟨2,mD,rfl⟩
   .exact⟨3,mD,rfl⟩
   .exact⟨4,mD,rfl⟩
  obtain⟨X,hX,rfl⟩:=this;have:=h X hX mD;unfold Has at this
  cases e:Yl l (X:Int) with
  | none=>exact absurd e this
  | some v=>exact ma e)
 rw[bh]at this;simp at this;omega
def rU{β:Type}{l:List (Int × β)}{L:Nat}(hL:L<5)(h:∀X:Nat,X<5->X≠L->Has l X):5<2*(U l):=by
 have hm:∀X:Nat,X<5->X≠L->(X:Int)∈l.map (·.1):=fun X hX hn=>by
  have:=h X hX hn;unfold Has at this
  cases e:Yl l (X:Int) with
  | none=>exact absurd e this
  | some v=>exact ma e
 have:∃a b c:Nat,a<5/\b<5/\c<5/\a≠L/\b≠L/\c≠L/\a≠b/\a≠c/\b≠c:=by
  match L,hL with
  | 0,_=>exact⟨1,2,3,KC⟩
  | 1,_=>exact⟨0,2,3,KC⟩
  | 2,_=>exact⟨0,1,3,KC⟩
  | 3,_=>exact⟨0,1,2,KC⟩
  | 4,_=>exact⟨0,1,2,KC⟩
 obtain⟨a,c,d,h1,h2,h3,h4,h5,h6,h7,h8,h9⟩:=this;have:=UW (l:=[(a:Int),(c:Int),(d:Int)]) (C:=l.map (·.1)) vI (fun x hx=>by
  simp only[aX,br,or_false]at hx;rcases hx with rfl|rfl|rfl
  .exact hm a h1 h4
  .exact hm c h2 h5
  .exact hm d h3 h6)
 rw[bh]at this;simp at this;omega
section
variable {C:List Cm} {b:Yg} {L X:Nat} {w:Wd}
def jU(h:PW C b L w)(hC:(U C)<=100000)(hb:ZC b)(hX:X<5)(hf:WS (w.Zc X)):∃d:Nd,PN C b L X d/\d.Zp=al/\Xt (w.Zc X) d/\(∀l∈(YH d).ls,l∈Jq w) /\
  ∃k,(DN w).Zc X = { (YH d).n with Zf:=k }:=by
 have hu:=(h.nd X hX).up;have hd:=JQ (JT (C:=C) (b:=b) (L:=L) hX hC hb) (w.Zc X).Zf (w.Zc X) (h.nd X hX) (h.QD X hX);have hs:=J8 hu hf;refine⟨(Zy (w.Zc X) (w.Zc X).Zf).n,hd.1,hf.2,WT _ _ hf.2,fun l hl=>QY.2 (.inr ⟨X,hX,by rw[hs];exact an.2 (.inr hl)⟩),?_⟩;rw[J7 w X hX hu,hs];exact⟨_,rfl⟩
end
def sh{α:Type}(w:Nat->α)(a:Nat):Nat->α:=fun t=>w (a+t)
structure QA(S:Cm->Prop)(C:List Cm)(b:Yg)(L T:Nat)(w:Nat->Wd)(g:Nat->Gh)(M:Nat->Nat->Yg):Prop where
 hC:(U C)<=100000
 hb:ZC b
 hL:L<5
 hn:b.n=L
 nx:∀t,w (t+1)=DN (w t)
 pw:PW C b L (w 0)
 nf:∀t,t<=T->∀X,X<5->¬Full ((w t).Zc X)
 ti:∀t,t<=T->TI S (g t) (M t) (w t)
 mv:∀t,t<T->∀j b s x,(g t).V j b s x->(g (t+1)).V j b s x
 hS:∀x,S x->x.err=0
section
variable {S:Cm->Prop} {C:List Cm} {b:Yg} {L T:Nat} {w:Nat->Wd} {g:Nat->Gh} {M:Nat->Nat->Yg}
def QA.at(tr:QA S C b L T w g M):∀t,PW C b L (w t):=by
 intro t
 induction t with
 | zero=>exact tr.pw
 | succ t ih=>rw[tr.nx];exact jR ih tr.hC tr.hb
def QA.stays(tr:QA S C b L T w g M){Z:Nat->Prop}(st:∀t,t<T->Z t->Z (t+1)){a:Nat}(h:Z a):∀t,a<=t->t<=T->Z t:=by
 intro t
 induction t with
 | zero=>intro h1 _;rw[show (0:Nat)=a by omega];exact h
 | succ t ih=>
  intro h1 h2;by_cases e:a=t+1
  .rw[<-e];exact h
  .exact st t mD (ih mD mD)
def QA.Zat(tr:QA S C b L T w g M){t:Nat}(hX:X<5){A G:Yn->Prop}{E F:Nd->Prop}(H:Ou (PN C b L X) (PJ C b) A G E F)(hs:Src A E F ((w t).Zc X)):
  (Src A E F ((w (t+1)).Zc X)\/∃m∈Jq (w t),G m)/\(WS ((w t).Zc X)->E ((w (t+1)).Zc X)\/∃m∈Jq (w t),G m):=by
 rw[tr.nx];exact dg (tr.at t) tr.hC tr.hb hX H hs
def QA.comes(tr:QA S C b L T w g M){t Y:Nat}(hY:Y<5){A:Yn->Prop}{E F:Nd->Prop}(h:∃m∈Jq (w t),A m)(ht:∀m,A m->m.to=Y):Src A E F ((w (t+1)).Zc Y):=by
 rw[tr.nx];exact jS hY ((tr.at t).nd Y hY).up h (fun m q=>by have:=ht m q;omega)
def QA.free(tr:QA S C b L T w g M){t:Nat}(hX:X<5)(hf:WS ((w t).Zc X)):∃d:Nd,PN C b L X d/\d.Zp=al/\Xt ((w t).Zc X) d/\(∀l∈(YH d).ls,l∈Jq (w t)) /\
  ∃k,(w (t+1)).Zc X = { (YH d).n with Zf:=k }:=by
 rw[tr.nx];exact jU (tr.at t) tr.hC tr.hb hX hf
def rW:Ou (PN C b L X) (PJ C b) (fun _=>False) (fun _=>False) (fun n=>n.Zr.p=b\/Full n) (fun n=>∃p,n.Zp=ak p/\(XW p).p=b):=
 Zar fun n l _ _ _ h=>h.elim
def QA.Bu(tr:QA S C b L T w g M){t:Nat}(hX:X<5)(h:((w t).Zc X).Zr.p=b)(ht:t<T):((w (t+1)).Zc X).Zr.p=b:=by
 rcases (tr.Zat hX rW (.inl (.inl h))).1 with (q|⟨p,q,e⟩|⟨_,_,q⟩)|⟨_,_,q⟩
 .rcases q with q|q
  .exact q
  .exact absurd q (tr.nf (t+1) mD X hX)
 ·-- ZdX is Zmz ZvR not go back
  have hs:=OY (tr.at t) tr.hC tr.hb hX;have e2:((w (t+1)).Zc X).Zr=(step ((w t).Zc X)).n.Zr:=by
   rw[tr.nx,J7 _ X hX ((tr.at t).nd X hX).up]
  have:(step ((w t).Zc X)).n.Zr.p=b:=by
   have W:=(JT (C:=C) (b:=b) (L:=L) (X:=X) hX tr.hC tr.hb).and (E:=fun n=>n.Zr.p=b) (fun n k h=>h) (fun n l h _ _ q=>Wv.1 n l h q) (fun n h hp q=>Wv.2.1 n h hp q) (fun n p h hp q=>Wv.2.2 n p h hp q);exact (Rj W ((tr.at t).nd X hX).up ⟨(tr.at t).nd X hX,h⟩ ((tr.at t).QD X hX)).1.2
  rw[e2];exact this
 .exact q.elim
 .exact q.elim
end
section
variable {S:Cm->Prop} {C:List Cm} {b:Yg} {L T:Nat} {w:Nat->Wd} {g:Nat->Gh} {M:Nat->Nat->Yg}
def QA.Bv(tr:QA S C b L T w g M){t:Nat}{Q:XM->Prop}(hQ:∀r r',X7 r r'->Q r->Q r')(h:Bq Q ((w t).Zc L)):Bq Q ((w (t+1)).Zc L):=by
 rcases (tr.Zat tr.hL (FF (A:=fun _=>False) (G:=fun _=>False) hQ (fun n l _ _ _ h=>h.elim)) (.inl h)).1 with (q|q|⟨_,_,q⟩)|⟨_,_,q⟩
 .exact q
 .exact q.elim
 .exact q.elim
 .exact q.elim
end
def rX(b:Yg)(L:Nat)(u:Int)(y:Cm)(X:Nat)(w:Wd):Prop:=
 Src (fun m=>m.ZH=3/\m.v=QJ u b y/\m.JA=X/\m.to=L) (Bq fun r=>jO r u X) (fun _=>False) (w.Zc L)
section
variable {S:Cm->Prop} {C:List Cm} {b:Yg} {L T:Nat} {w:Nat->Wd} {g:Nat->Gh} {M:Nat->Nat->Yg}
def QA.ZmA(tr:QA S C b L T w g M){E:Nd->Prop}(e1:∀n k,E n->E { n with Zf:=k }){t:Nat}(hX:X<5)(e2:∀n l,PN C b L X n->E n->E (Zx n l).n)(e3:∀n,PN C b L X n->n.Zp=al->E n->E (YH n).n)(e4:∀n p,PN C b L X n->n.Zp=ak p->E n->E (Yp (ZJ n) p).n)(h:E ((w t).Zc X)):E ((w (t+1)).Zc X):=by
 have W:=(JT (C:=C) (b:=b) (L:=L) (X:=X) hX tr.hC tr.hb).and (E:=E) e1 (fun n l h _ _ q=>e2 n l h q) e3 e4;have:=(Rj W ((tr.at t).nd X hX).up ⟨(tr.at t).nd X hX,h⟩ ((tr.at t).QD X hX)).1.2;rw[tr.nx,J7 _ X hX ((tr.at t).nd X hX).up];exact e1 _ _ this
def QA.Zau(tr:QA S C b L T w g M){t:Nat}(hX:X<5){j:Int}(h:Has ((w t).Zc X).Zi j):Has ((w (t+1)).Zc X).Zi j:=
 tr.ZmA (E:=fun n=>Has n.Zi j) (fun n k h=>h) hX (fun n l _ h=>rO h l) (fun n hn hp h=>rP h hp hn) (fun n p _ _ h=>rQ h p) h
def QA.ZhJ(tr:QA S C b L T w g M){t:Nat}(ht:t<=T){s:Int}{x:Cm}(h:Bq (fun r=>Yl r.Yj s=ak x) ((w t).Zc L)):(g t).P b s x:=by
 obtain⟨r,hr,hp⟩:=h;have R:=((tr.ti t ht).nd L tr.hL).Zh r hr;obtain⟨r0,h1,h2⟩:=((tr.at t).nd L tr.hL).Z5 rfl;rw[hr]at h1;obtain rfl:=Option.some.inj h1;have:=R.safe s x hp;rw[h2]at this;exact this
def QA.Zav(tr:QA S C b L T w g M){t:Nat}(ht:t<=T){s:Nat}(hs:s<40){x:Cm}(h:Bq (fun r=>Yl r.Yj s=ak x) ((w t).Zc L)):Yu (QJ s b x):=by
 have hx:x.err=0:=by
  rcases (tr.ti t ht).gi.cmd _ _ _ (tr.ZhJ ht h) with rfl|q
  .rfl
  .exact tr.hS x q
 exact⟨⟨by show (0:Int)<=(s:Int);omega,by show (s:Int)<=39;omega⟩,tr.hb,hx⟩
def QA.ZhK(tr:QA S C b L T w g M){t u:Nat}{y:Cm}(h:rX b L u y X (w t)):rX b L u y X (w (t+1)):=by
 rcases (tr.Zat tr.hL (dm (X:=X) (s:=(u:Int)) (x:=y) (G:=fun _=>False)) h).1 with q|⟨_,_,q⟩
 .exact q
 .exact q.elim
end
structure Vw where
 H:List (Nat × Yg × Int × Bool)
 B:List Yg
 K:List Yg
 T:Nat
def Vw.cost(v:Vw):Nat:=v.H.length+v.B.length+v.K.length+v.T
def Dn(v:Vw)(i:Nat)(b:Yg)(s:Int):Prop:=(i,b,s,false)∈v.H/\(i,b,s,true)∈v.H
def Uv(v:Vw)(s:Nat):Prop:=∃i b,Dn v i b s
def Mr(v:Vw)(s:Nat):Prop:=∃b Q,tM Q/\∀i∈Q,Dn v i b s
def Nk(P:Nat->Prop)(s k:Nat):Prop:=∀L:List Nat,L.Nodup->(∀x∈L,x<s/\¬P x)->(U L)<=k
def gT(v:Vw):Nat:=(19+v.T)/5
structure Vw.Le(v w:Vw):Prop where
 h:∀x∈v.H,x∈w.H
 b:∀(i:Nat) x,v.B[i]? = ak x->w.B[i]? = ak x
 k:∀x∈v.K,x∈w.K
 t:v.T<=w.T
def Vw.Le.refl(v:Vw):v.Le v:=⟨fun _ h=>h,fun _ _ h=>h,fun _ h=>h,am _⟩
def Vw.Le.trans{u v w:Vw}(h:u.Le v)(k:v.Le w):u.Le w:=⟨fun x e=>k.h x (h.h x e),fun i x e=>k.b i x (h.b i x e),fun x e=>k.k x (h.k x e),bp h.t k.t⟩
section
variable {P P':Nat->Prop} {s s' k k':Nat} {v w:Vw}
def Nk.up(h:Nk P s k)(hP:∀x,P x->P' x)(hs:s'<=s)(hk:k<=k'):Nk P' s' k':=fun L n q=>
 bp (h L n fun x hx=>⟨Nat.lt_of_lt_of_le (q x hx).1 hs,fun e=>(q x hx).2 (hP x e)⟩) hk
def Nk.next(hp:P s)(h:Nk P s k):Nk P (s+1) k:=fun L n q=>h L n fun x hx=>by
 refine⟨?_,(q x hx).2⟩;have:=(q x hx).1;have:x≠s:=fun e=>(q x hx).2 (by rw[e];exact hp);omega
def Nk.Zaw:∀s,(∀t,t<s->P t\/Nk P t k)->Nk P s (k+1):=by
 intro s
 induction s with
 | zero=>
  intro _ L _ q
  cases L with
  | nil=>simp
  | cons x L=>have:=(q x sW).1;omega
 | succ s ih=>
  intro h L n q;by_cases e:s∈L
  .have h1:=(h s mD).resolve_left (q s e).2 (L.erase s) (n.erase s) (fun x hx=>by
    have tp:=(List.Nodup.mem_erase_iff n).1 hx;have:=(q x tp.2).1;have:=tp.1;exact⟨mD,(q x tp.2).2⟩)
   have:=a9 e;omega
  .exact ih (fun t ht=>h t mD) L n fun x hx=>by
    have:=(q x hx).1;have:x≠s:=fun e2=>e (by rw[<-e2];exact hx);exact⟨mD,(q x hx).2⟩
def rY(e:Nat)(L:List Nat):(U L)=(L.filter (fun x=>decide (x<e))).length+(L.filter (fun x=>decide (e<=x))).length:=by
 induction L with
 | nil=>rfl
 | cons x L ih=>
  by_cases q:x<e
  .rw[ba (by simpa using q),bc vI];simp only[bd];omega
  .rw[bc (by simpa using q),ba vI];simp only[bd];omega
def Nk.add{e d:Nat}(h:Nk P e k)(hd:∀L:List Nat,L.Nodup->(∀x∈L,e<=x/\x<s/\¬P x)->(U L)<=d):Nk P s (k+d):=fun L n q=>by
 rw[rY e L];refine Nat.add_le_add (h _ (n.filter _) fun x hx=>?_) (hd _ (n.filter _) fun x hx=>?_)
 .obtain⟨h1,h2⟩:=aw.1 hx;exact⟨by simpa using h2,(q x h1).2⟩
 .obtain⟨h1,h2⟩:=aw.1 hx;exact⟨by simpa using h2,q x h1⟩
def Vw.Le.dn(h:v.Le w){i:Nat}{b:Yg}{s:Int}(d:Dn v i b s):Dn w i b s:=⟨h.h _ d.1,h.h _ d.2⟩
def Vw.Le.u(h:v.Le w)(s:Nat):Uv v s->Uv w s:=fun⟨i,b,d⟩=>⟨i,b,h.dn d⟩
def Vw.Le.ch(h:v.Le w)(s:Nat):Mr v s->Mr w s:=fun⟨b,Q,q,d⟩=>⟨b,Q,q,fun i hi=>h.dn (d i hi)⟩
def Vw.Le.mb(h:v.Le w){x:Yg}(e:x∈v.B):x∈w.B:=by
 obtain⟨i,e⟩:=aI.1 e;exact aI.2 ⟨i,h.b i x e⟩
def Vw.Le.g(h:v.Le w):gT v<=gT w:=aK (by have:=h.t;omega)
def Mr.u(h:Mr v s):Uv v s:=by
 obtain⟨b,Q,q,d⟩:=h;obtain⟨i,hi,_⟩:=q.meet q;exact⟨i,b,d i hi⟩
end
def SX(v:Vw)(c d:Nat)(x:Vt):Prop:=0<=x.Zs/\x.Zs<40/\∃i,v.B[i]? = ak x.b/\Nk (Mr v) (x.Zs.toNat+1) (c*(i+1))/\Nk (Uv v) (x.Zs.toNat+1) (gT v+1+d)
def K0(v:Vw)(b:Yg):Prop:=b=X2\/b∈v.K
def Pm(v:Vw)(i:Nat)(b:Yg):Prop:=Dn v i b (-1)\/b∈v.B
section
variable {v w:Vw} {c d:Nat}
def SX.up(L:v.Le w){x:Vt}(h:SX v c d x):SX w c d x:=by
 obtain⟨h1,h2,i,h3,h4,h5⟩:=h;exact⟨h1,h2,i,L.b _ _ h3,h4.up L.ch (am _) (am _),h5.up L.u (am _) (by have:=L.g;omega)⟩
def K0.up(L:v.Le w){b:Yg}(h:K0 v b):K0 w b:=h.imp_right (L.k b)
def Pm.up(L:v.Le w){i:Nat}{b:Yg}(h:Pm v i b):Pm w i b:=h.imp L.dn L.mb
end
def FI(v:Vw)(p:Yg)(k:List Yn):Prop:=∀a l c,k=a++l :: c->l.ZH=2->∀t:Nat,(t:Int)<l.v.Zs->Uv v t\/(∃m∈a,m.ZH=2/\m.v.b=l.v.b/\m.v.Zs=(t:Int))\/Nk (Uv v) t (gT v)\/Zw l.v.b p
def FJ(v:Vw)(k:List Yn):Prop:=∀a l c,k=a++l :: c->l.ZH=2->Nk (Uv v) l.v.Zs.toNat (((U a)+v.T)/5)
section
variable {v w:Vw} {p q:Yg} {k j:List Yn} {l:Yn}
def FG{a b c:Yg}(h:Zw a b)(k:¬Zw c b):Zw a c:=by unfold Zw at *;omega
def FI.nil:FI v p []:=fun a l c e=>by simp at e
def FI.up(L:v.Le w)(hp:¬Zw q p)(h:FI v p k):FI w q k:=fun a l c e hk t ht=>by
 rcases h a l c e hk t ht with h|h|h|h
 .exact .inl (L.u _ h)
 .exact .inr (.inl h)
 .exact .inr (.inr (.inl (h.up L.u (am _) L.g)))
 .exact .inr (.inr (.inr (FG h hp)))
def Rl{α:Type}{k j a c:List α}{l:α}(h:k++j=a++l :: c):(∃c',k=a++l :: c'/\c=c'++j)\/∃a',a=k++a'/\j=a'++l :: c:=by
 rcases List.append_eq_append_iff.1 h with⟨x,h1,h2⟩|⟨x,h1,h2⟩
 .exact .inr ⟨x,h1,h2⟩
 .cases x with
  | nil=>exact .inr ⟨[],by simpa using h1.symm,by simpa using h2.symm⟩
  | cons y x=>
   simp only[bf,List.cons.injEq]at h2;exact .inl ⟨x,by rw[h1,h2.1],h2.2⟩
def FI.app(h:FI v p k)(h2:FI v p j):FI v p (k++j):=fun a l c e hk t ht=>by
 rcases Rl e with⟨c',e1,_⟩|⟨a',e1,e2⟩
 .exact h a l c' e1 hk t ht
 .exact (h2 a' l c e2 hk t ht).imp_right (Or.imp_left fun⟨m,hm,q⟩=>⟨m,by rw[e1];exact an.2 (.inr hm),q⟩)
def FI.one(h:l.ZH=2->Nk (Uv v) l.v.Zs.toNat (gT v)):FI v p [l]:=fun a m c e hk t ht=>by
 have e2:a=[]/\l=m:=by
  cases a with
  | nil=>simp at e;exact⟨rfl,e.1⟩
  | cons x a=>simp at e
 obtain⟨_,rfl⟩:=e2;exact .inr (.inr (.inl ((h hk).up (fun _ h=>h) mD (am _))))
def FI.plain(h:∀l∈k,l.ZH≠2):FI v p k:=fun a l c e hk=>absurd hk (h l (by rw[e];simp))
def FI.tail(h:FI v p (l :: k))(hl:l.ZH=2->Uv v l.v.Zs.toNat\/Zw l.v.b p):FI v p k:=fun a m c e hk t ht=>by
 rcases h (l :: a) m c (by rw[e];rfl) hk t ht with h|⟨x,hx,h1,h2,h3⟩|h
 .exact .inl h
 .rcases aX.1 hx with rfl|hx
  .rcases hl h1 with q|q
   .exact .inl (by rw[show t=x.v.Zs.toNat by omega];exact q)
   .exact .inr (.inr (.inr (by rw[<-h2];exact q)))
  .exact .inr (.inl ⟨x,hx,h1,h2,h3⟩)
 .exact .inr (.inr h)
def FI.head{l':Yn}(h:FI v p (l :: k))(h1:l'.ZH=l.ZH)(h2:l'.v=l.v):FI v p (l' :: k):=fun a m c e hk t ht=>by
 cases a with
 | nil=>
  simp only[List.nil_append,List.cons.injEq]at e;obtain⟨rfl,rfl⟩:=e;have:=h [] l k rfl (by rw[<-h1];exact hk) t (by rw[<-h2];exact ht);rw[<-h2]at this;exact this
 | cons y a=>
  simp only[bf,List.cons.injEq]at e;obtain⟨rfl,rfl⟩:=e;rcases h (l :: a) m c rfl hk t ht with h|⟨x,hx,q1,q2,q3⟩|h
  .exact .inl h
  .rcases aX.1 hx with rfl|hx
   .exact .inr (.inl ⟨l',sW,by rw[h1];exact q1,by rw[h2];exact q2,by rw[h2];exact q3⟩)
   .exact .inr (.inl ⟨x,by simp[hx],q1,q2,q3⟩)
  .exact .inr (.inr h)
def FI.here(h:FI v p (l :: k))(hk:l.ZH=2)(hb:¬Zw l.v.b p)(h0:0<=l.v.Zs):Nk (Uv v) l.v.Zs.toNat (gT v+1):=Nk.Zaw _ fun t ht=>by
 rcases h [] l k rfl hk t mD with h|⟨x,hx,_⟩|h|h
 .exact .inl h
 .cases hx
 .exact .inr h
 .exact absurd h hb
def FI.out{a c:List Yn}(h:FI v p (a++l :: c))(hl:l.ZH=2->Nk (Uv v) l.v.Zs.toNat (gT v)):FI v p (a++c):=fun a' m c' e hk t ht=>by
 rcases Rl e with⟨x,e1,_⟩|⟨x,e1,e2⟩
 .exact h a' m (x++l :: c) (by rw[e1];simp) hk t ht
 .rcases h (a++l :: x) m c' (by rw[e2];simp) hk t ht with h|⟨y,hy,q1,q2,q3⟩|h
  .exact .inl h
  .rcases an.1 hy with hy|hy
   .exact .inr (.inl ⟨y,by rw[e1];simp[hy],q1,q2,q3⟩)
   .rcases aX.1 hy with rfl|hy
    .exact .inr (.inr (.inl ((hl q1).up (fun _ h=>h) mD (am _))))
    .exact .inr (.inl ⟨y,by rw[e1];simp[hy],q1,q2,q3⟩)
  .exact .inr (.inr h)
def FJ.nil:FJ v []:=fun a l c e=>by simp at e
def FJ.up(L:v.Le w)(h:FJ v k):FJ w k:=fun a l c e hk=>(h a l c e hk).up L.u (am _) (aK (by have:=L.t;omega))
def FJ.app(h:FJ v k)(h2:FJ v j):FJ v (k++j):=fun a l c e hk=>by
 rcases Rl e with⟨c',e1,_⟩|⟨a',e1,e2⟩
 .exact h a l c' e1 hk
 .exact (h2 a' l c e2 hk).up (fun _ h=>h) (am _) (aK (by rw[e1,au];omega))
def FJ.plain(h:∀l∈k,l.ZH≠2):FJ v k:=fun a l c e hk=>absurd hk (h l (by rw[e];simp))
def FJ.out{a c:List Yn}(h:FJ v (a++l :: c))(L:v.Le w)(ht:v.T+1<=w.T):FJ w (a++c):=fun a' m c' e hk=>by
 rcases Rl e with⟨x,e1,_⟩|⟨x,e1,e2⟩
 .exact (h a' m (x++l :: c) (by rw[e1];simp) hk).up L.u (am _) (aK mD)
 .exact (h (a++l :: x) m c' (by rw[e2];simp) hk).up L.u (am _) (aK (by rw[e1];simp only[au,bd];omega))
def FH{α:Type}(f:Nat->List α):∀n (a:List α) l c,(bn n).flatMap f=a++l :: c->∃s,s<n/\l∈f s/\∃q,a=(bn s).flatMap f++q:=by
 intro n
 induction n with
 | zero=>intro a l c e;simp at e
 | succ n ih=>
  intro a l c e;rw[bx,bj]at e;rcases Rl e with⟨x,e1,_⟩|⟨x,e1,e2⟩
  .obtain⟨s,h1,h2⟩:=ih a l x e1;exact⟨s,mD,h2⟩
  .have e2:f n++[]=x++l :: c:=e2;exact⟨n,mD,by rw[bz]at e2;rw[e2];simp,x,e1⟩
def rZ{α:Type}(f:Nat->List α):∀s (L:List Nat),L.Nodup->(∀x∈L,x<s/\5<=(f x).length)->5*(U L)<=((bn s).flatMap f).length:=by
 intro s
 induction s with
 | zero=>
  intro L _ q
  cases L with
  | nil=>simp
  | cons x L=>have:=(q x sW).1;omega
 | succ s ih=>
  intro L n q;rw[bx,bj,au];have es:([s].flatMap f).length=(f s).length:=sW;by_cases e:s∈L
  .have h1:=ih (L.erase s) (n.erase s) (fun x hx=>by
    have tp:=(List.Nodup.mem_erase_iff n).1 hx;have:=(q x tp.2).1;have:=tp.1;exact⟨mD,(q x tp.2).2⟩)
   have:=a9 e;have:=List.length_pos_of_mem e;have:=(q s e).2;omega
  .have:=ih L n fun x hx=>by
    have:=(q x hx).1;have:x≠s:=fun e2=>e (by rw[<-e2];exact hx);exact⟨mD,(q x hx).2⟩
   omega
end
structure Rr(C:List Cm)(v:Vw)(kn pr:List (Int × Cm))(e:Nat):Prop where
 BJ:∀s:Nat,Has pr s->s<40/\∀t:Nat,t<s->Has pr t\/Has kn t
 cmd:∀(s:Nat) x,e<=s->Yl pr s=ak x->x∈C
 inj:∀(s t:Nat) x,e<=t->t<s->Yl pr s=ak x->Yl pr t=ak x->Mr v t
def WU{β:Type}{l:List (Int × β)}{k:Int}(h:Has l k):∃x,Yl l k=ak x:=by
 cases e:Yl l k with
 | none=>exact absurd e h
 | some x=>exact⟨x,rfl⟩
def SA{β:Type}{l:List (Int × β)}{k:Int}{x:β}(h:Yl l k=ak x):Has l k:=fun e=>by rw[e]at h;cases h
section
variable {C:List Cm} {v w:Vw} {kn kn' pr:List (Int × Cm)} {e:Nat}
def Rr.up(L:v.Le w)(hk:∀s:Int,Has kn s->Has kn' s)(R:Rr C v kn pr e):Rr C w kn' pr e:=
 ⟨fun s hs=>⟨(R.BJ s hs).1,fun t ht=>((R.BJ s hs).2 t ht).imp_right (hk t)⟩,R.cmd,fun s t x h1 h2 h3 h4=>L.ch _ (R.inj s t x h1 h2 h3 h4)⟩
def Rr.pQ{P:Nat->Prop}(R:Rr C v kn pr e)(hC:∀t,Mr v t->P t)(hk:∀t:Nat,Has kn t->Mr v t){β:Nat}(h:Nk P e β){s:Nat}(hs:Has pr s):Nk P (s+1) (β+(U C)):=h.add fun L n q=>by
 have hp:∀x∈L,Has pr x:=fun x hx=>by
  obtain⟨_,q2,q3⟩:=q x hx;by_cases e:x=s
  .rw[e];exact hs
  .rcases (R.BJ s hs).2 x mD with h|h
   .exact h
   .exact absurd (hC _ (hk _ h)) q3
 have n2:(L.map fun x:Nat=>(Yl pr (x:Int)).getD dQ).Nodup:=by
  refine List.pairwise_map.2 (List.Pairwise.imp_of_mem (fun {a b} ha hb Xb he=>?_) n);obtain⟨x,hx⟩:=WU (hp a ha);obtain⟨y,hy⟩:=WU (hp b hb);rw[hx,hy]at he;obtain rfl:x=y:=he;have:a<b\/b<a:=mD;rcases this with h|h
  .exact (q a ha).2.2 (hC _ (R.inj b a x (q a ha).1 h hy hx))
  .exact (q b hb).2.2 (hC _ (R.inj a b x (q b hb).1 h hx hy))
 have:=UW (C:=C) n2 fun y hy=>by
  obtain⟨x,hx,rfl⟩:=a7.1 hy;obtain⟨z,hz⟩:=WU (hp x hx);rw[hz];exact R.cmd x z (q x hx).1 hz
 rwa [bh]at this
def DQ{x:Cm}:∀(k s t:Nat),JZ n r x k s=ak t->∀u:Nat,s<=u->u<t->Yl r.Yj (u:Int)≠ak x:=by
 intro k
 induction k with
 | zero=>intro s t h;cases h
 | succ k ih=>
  intro s t h u h1 h2;unfold JZ at h;split at h
  .cases h
  .rename_i q1;split at h
   .obtain rfl:=Option.some.inj h;omega
   .by_cases e:u=s
    .rw[e];exact fun e2=>q1 (.inl e2)
    .exact ih (s+1) t h u mD h2
def Rr.one{x:Cm}(R:Rr C v n.Zi r.Yj e)(hk:∀t:Nat,Has n.Zi t->Mr v t)(hl:∀t,t<n.ZI.length->Has n.Zi (t:Int))(hL:n.ZI.length<=40)(hx:x∈C):Rr C v n.Zi (QT n r x).Yj e:=by
 unfold QT;split
 .rename_i s hs;obtain⟨q1,q2,q3,q4⟩:=Ky _ _ _ hs;have o:=dq _ _ _ (fun u hu=>.inr (hl u hu)) hs;have ne:=DQ _ _ _ hs;have li:∀t:Nat,Yl (ins r.Yj (s:Int) x) (t:Int)=if t=s then ak x else Yl r.Yj (t:Int):=fun t=>by
   rw[Xl];by_cases e:t=s
   .rw[if_pos mD,if_pos e]
   .rw[if_neg mD,if_neg e]
  have ns:¬Has r.Yj (s:Int):=fun h=>h q3;refine⟨fun t ht=>?_,fun t y h1 h2=>?_,fun t u y h1 h2 h3 h4=>?_⟩
  .show t<40/\∀u:Nat,u<t->Has (ins r.Yj (s:Int) x) u\/Has n.Zi u;have Ga:∀u:Nat,Has r.Yj u\/Has n.Zi u->Has (ins r.Yj (s:Int) x) u\/Has n.Zi u:=fun u h=>h.imp_left fun h=>h.ins _ _;by_cases e:t=s
   .exact⟨mD,fun u hu=>Ga u (o u mD)⟩
   .have ht:Has r.Yj (t:Int):=by
     have ht:Has (ins r.Yj (s:Int) x) (t:Int):=ht;unfold Has at ht;rw[li,if_neg e]at ht;exact ht
    exact⟨(R.BJ t ht).1,fun u hu=>Ga u ((R.BJ t ht).2 u hu)⟩
  .have h2:Yl (ins r.Yj (s:Int) x) (t:Int)=ak y:=h2;rw[li]at h2;split at h2
   .rw[<-Option.some.inj h2];exact hx
   .exact R.cmd t y h1 h2
  .have h3:Yl (ins r.Yj (s:Int) x) (t:Int)=ak y:=h3;have h4:Yl (ins r.Yj (s:Int) x) (u:Int)=ak y:=h4;rw[li]at h3 h4;split at h4
   .rename_i e4;rw[if_neg mD]at h3;rcases (R.BJ t (SA h3)).2 s mD with q|q
    .exact absurd q ns
    .rw[e4];exact hk s q
   .split at h3
    .rename_i e3;obtain rfl:=Option.some.inj h3;by_cases c:u<n.ZI.length
     .exact hk u (hl u c)
     .exact absurd h4 (ne u mD mD)
    .exact R.inj t u y h1 h2 h3 h4
 .exact R
def Rr.all(hk:∀t:Nat,Has n.Zi t->Mr v t)(hl:∀t,t<n.ZI.length->Has n.Zi (t:Int))(hL:n.ZI.length<=40):∀(l:List Cm) (r:XM),(∀x∈l,x∈C)->Rr C v n.Zi r.Yj e->Rr C v n.Zi (Jp n r l).Yj e:=by
 intro l
 induction l with
 | nil=>intro r _ R;exact R
 | cons x l ih=>intro r h R;exact ih _ (fun y hy=>h y (by simp[hy])) (R.one hk hl hL (h x sW))
def Rr.begin(RI:Oj r)(hr:∀s,Yl r.Yj s=al)(hl:∀t,t<n.ZI.length->Has n.Zi (t:Int)):Rr C v n.Zi (Wp n r).Yj (TF (Ys r).flatten+1).toNat:=by
 obtain⟨h1,h2,_⟩:=Fm n (Ys r) ((TF (Ys r).flatten+1).toNat-n.ZI.length) n.ZI.length r.Yj;have ht:=mg RI;have Yt:∀(s:Nat) y,Yl (Wp n r).Yj (s:Int)=ak y->n.ZI.length<=s/\s<(TF (Ys r).flatten+1).toNat:=fun s y e=>by
  rcases h1 s y e with q|⟨t,q1,q2,q3,_⟩
  .rw[hr]at q;cases q
  .omega
 refine⟨fun s hs=>?_,fun s x q e=>?_,fun s t x q _ _ e=>?_⟩
 .obtain⟨y,hy⟩:=WU hs;have:=Yt s y hy;refine⟨mD,fun t q=>?_⟩;by_cases c:t<n.ZI.length
  .exact .inr (hl t c)
  .by_cases k:Yl n.Zi (t:Int)=al
   .exact .inl (h2 t mD mD k)
   .exact .inr k
 .have:=Yt s x e;omega
 .have:=Yt t x e;omega
end
structure RV(C:List Cm)(v:Vw)(X:Nat)(kn:List (Int × Cm))(r:XM):Prop where
 ZX:r.b.n=X
 mq:r.b∈v.K
 ZL:∀j vs,Yl r.ZL j=ak vs->Pm v j.toNat r.b/\∀x∈vs,SX v (U C) 0 x
 YY:∀s K j,Yl r.YY s=ak K->Yl K j=ak ()->Dn v j.toNat r.b s
 new:r.Xf=false->r.b ∉ v.B/\∀s,Yl r.Yj s=al
 Ga:r.Xf=true->∃i e,v.B[i]? = ak r.b/\Nk (Mr v) e ((U C)*i)/\Nk (Uv v) e (gT v+1)/\Rr C v kn r.Yj e
structure LV(c:Nat)(v:Vw)(l:Yn):Prop where
 b:K0 v l.b
 pre:l.ZH=0->l.b∈v.K
 Q8:l.ZH=1->Pm v l.JA.toNat l.b/\∀x∈l.vs,SX v c 0 x
 ask:l.ZH=2->SX v c c l.v
 Wo:l.ZH=3->Dn v l.JA.toNat l.v.b l.v.Zs
 cho:l.ZH=6->Mr v l.v.Zs.toNat
def sc(X:Nat)(l:Yn):Bool:=decide (l.to.toNat=X)
section
variable {C:List Cm} {v w:Vw} {X:Nat} {kn kn':List (Int × Cm)} {r:XM} {n:Nd}
def LV.up(L:v.Le w){c:Nat}{l:Yn}(h:LV c v l):LV c w l:=
 ⟨h.b.up L,fun e=>L.k _ (h.pre e),fun e=>⟨(h.Q8 e).1.up L,fun x hx=>((h.Q8 e).2 x hx).up L⟩,fun e=>(h.ask e).up L,fun e=>L.dn (h.Wo e),fun e=>L.ch _ (h.cho e)⟩
def RV.up(L:v.Le w)(hB:r.b∈w.B->r.b∈v.B)(hk:∀s:Int,Has kn s->Has kn' s)(h:RV C v X kn r):RV C w X kn' r:=by
 refine⟨h.ZX,L.k _ h.mq,fun j vs e=>⟨(h.ZL j vs e).1.up L,fun x hx=>((h.ZL j vs e).2 x hx).up L⟩,fun s K j e1 e2=>L.dn (h.YY s K j e1 e2),fun e=>⟨fun q=>(h.new e).1 (hB q),(h.new e).2⟩,fun e=>?_⟩;obtain⟨i,e0,h1,h2,h3,h4⟩:=h.Ga e;exact⟨i,e0,L.b _ _ h1,h2.up L.ch (am _) (am _),h3.up L.u (am _) (by have:=L.g;omega),h4.up L hk⟩
def RV.rules(V:RV C v X n.Zi r)(RI:Oj r)(hk:∀t:Nat,Has n.Zi t->Mr v t)(hl:∀t,t<n.ZI.length->Has n.Zi (t:Int))(hL:n.ZI.length<=40)(hq:∀x∈n.ZB,x∈C):
  ∃w:Vw,v.Le w/\w.cost<=v.cost+1/\(w.H=v.H/\w.K=v.K/\w.T=v.T)/\(w.B=v.B\/w.B=v.B++[r.b]/\r.Xf=false)/\RV C w X n.Zi (Xi n r)/\(Xi n r).Xf=true:=by
 obtain⟨kp,hb⟩:=UI n r (fun e=>(V.new e).2);obtain⟨e1,e2⟩:=Rk n r;by_cases c:r.Xf=true
 .refine⟨v,.refl v,Nat.le_succ _,⟨rfl,rfl,rfl⟩,.inl rfl,⟨by rw[kp.b];exact V.ZX,by rw[kp.b];exact V.mq,by rw[e2,kp.b];exact V.ZL,by rw[e1,kp.b];exact V.YY,(fun e=>by rw[hb]at e;cases e),fun _=>?_⟩,hb⟩;obtain⟨i,e,h1,h2,h3,h4⟩:=V.Ga c;refine⟨i,e,by rw[kp.b];exact h1,h2,h3,?_⟩;unfold Xi;rw[if_pos c];exact Rr.all hk hl hL _ _ hq h4
 .have c0:r.Xf=false:=by simpa using c
  obtain⟨w,hw⟩:∃w:Vw,w = { v with B:=v.B++[r.b] }:=⟨_,rfl⟩
  have L:v.Le w:=by
   rw[hw];refine⟨fun x h=>h,fun i x h=>?_,fun x h=>h,am _⟩;show (v.B++[r.b])[i]? = ak x;rw[List.getElem?_append_left (a8.1 h).1];exact h
  have O9:∀t:Nat,Has n.Zi t->Mr w t:=fun t h=>L.ch _ (hk t h);have V2:∀(j:Int) vs,Yl r.ZL j=ak vs->Pm w j.toNat r.b/\∀x∈vs,SX w (U C) 0 x:=fun j vs e=>⟨(V.ZL j vs e).1.up L,fun x hx=>((V.ZL j vs e).2 x hx).up L⟩
  refine⟨w,L,by rw[hw];simp[Vw.cost];omega,by rw[hw];exact⟨rfl,rfl,rfl⟩,.inr ⟨by rw[hw],c0⟩,⟨by rw[kp.b];exact V.ZX,by rw[kp.b];exact L.k _ V.mq,by rw[e2,kp.b];exact V2,by rw[e1,kp.b];exact fun s K j q1 q2=>L.dn (V.YY s K j q1 q2),(fun e=>by rw[hb]at e;cases e),fun _=>?_⟩,hb⟩;have Z5:Nk (Mr w) (TF (Ys r).flatten+1).toNat ((U C)*v.B.length)/\Nk (Uv w) (TF (Ys r).flatten+1).toNat (gT w+1):=by
   have z:∀P k,Nk P 0 k:=fun P k L _ q=>by
    cases L with
    | nil=>simp
    | cons x L=>have:=(q x sW).1;omega
   rcases (Mk (Ys r).flatten (-1)).2.2 with h|⟨x,hx,h⟩
   .rw[show TF (Ys r).flatten = -1 from h];exact⟨z _ _,z _ _⟩
   .rw[show TF (Ys r).flatten=x.Zs from h];obtain⟨m,_,vs,h1,h2⟩:=Kx hx;obtain⟨s0,s1,i,s2,s3,s4⟩:=(V.ZL _ _ h1).2 x h2;have hi:=(a8.1 s2).1;rw[show (x.Zs+1).toNat=x.Zs.toNat+1 by omega];exact⟨s3.up L.ch (am _) (bl _ hi),s4.up L.u (am _) (by have:=L.g;omega)⟩
  refine⟨v.B.length,_,by rw[kp.b,hw];simp,Z5.1,Z5.2,?_⟩;unfold Xi;rw[if_neg c];exact Rr.all O9 hl hL _ _ hq (Rr.begin RI (V.new c0).2 hl)
def LH{s:Nat}{l:Yn}(h:l∈UM n r s):∃x,∃m:Nat,Yl r.Yj (s:Int)=ak x/\Yl n.Zi (s:Int)=al/\m<5/\l=⟨2,n.me,m,X2,QJ s r.b x,[]⟩:=by
 unfold UM at h;split at h
 .rename_i x hx;split at h
  .rename_i hk;obtain⟨m,hm,h⟩:=aF.1 h;unfold S7 at h;split at h
   .exact⟨x,m,hx,hk,a4.1 hm,aa.1 h⟩
   .cases h
  .cases h
 .cases h
def RV.Ma(V:RV C v X n.Zi r)(hb:r.Xf=true)(hk:∀t:Nat,Has n.Zi t->Mr v t){s t:Nat}(hs:Has r.Yj s)(ht:t<s)(hu:¬Uv v t):∃x,UM n r t=(bn 5).flatMap fun (m:Nat)=>[(⟨2,n.me,m,X2,QJ t r.b x,[]⟩:Yn)]:=by
 obtain⟨i,e,_,_,_,R⟩:=V.Ga hb;have hn:¬Has n.Zi (t:Int):=fun h=>hu (hk t h).u;obtain⟨x,hx⟩:=WU (((R.BJ s hs).2 t ht).resolve_right hn);have hv:∀m:Nat,Yl ((Yl r.YY (t:Int)).getD []) (m:Int)=al:=fun m=>by
  cases e:Yl r.YY (t:Int) with
  | none=>rfl
  | some K=>
   show Yl K (m:Int)=al
   cases e2:Yl K (m:Int) with
   | none=>rfl
   | some y=>exact absurd ⟨_,_,V.YY _ K _ e (by rw[e2])⟩ hu
 refine⟨x,?_⟩;unfold UM;rw[hx];simp only;rw[if_pos (by unfold Has at hn;simpa using hn)]
 congr 1
 funext m
 unfold S7;rw[if_pos (hv m)]
def RV.asks(V:RV C v X n.Zi r)(hb:r.Xf=true)(hk:∀t:Nat,Has n.Zi t->Mr v t):(∀l∈U8 n r,LV (U C) v l)/\FJ v (U8 n r)/\∀Y,Y<5->∀p,FI v p ((U8 n r).filter (sc Y)):=by
 refine⟨fun l hl=>?_,fun a l c e _=>?_,fun Y hY p a l c e _ t ht=>?_⟩
 .obtain⟨s,hs,hl⟩:=aF.1 hl;obtain⟨x,m,hx,_,_,rfl⟩:=LH hl;obtain⟨i,e,h1,h2,h3,R⟩:=V.Ga hb;have h40:=(R.BJ s (SA hx)).1;refine⟨.inl rfl,(fun h=>by cases h),(fun h=>by cases h),fun _=>⟨by show (0:Int)<=(s:Int);omega,by show (s:Int)<40;omega,i,h1,?_,?_⟩,(fun h=>by cases h),fun h=>by cases h⟩
  .exact (R.pQ (fun _ h=>h) hk h2 (SA hx)).up (fun _ h=>h) (am _) (by rw[Nat.mul_add,Nat.mul_one];exact am _)
  .exact R.pQ (fun _ h=>h.u) hk h3 (SA hx)
 .obtain⟨s,_,hl,q,ea⟩:=FH _ _ _ _ _ e;obtain⟨x,m,hx,_,_,rfl⟩:=LH hl;show Nk (Uv v) s _;intro L n q;have:=rZ (UM _ r) s L n fun t ht=>by
   obtain⟨h1,h2⟩:=q t ht;obtain⟨y,ey⟩:=V.Ma hb hk (SA hx) h1 h2;exact⟨h1,by rw[ey];simp;decide⟩
  rw[ea,au];omega
 .unfold U8 at e;rw[List.filter_flatMap]at e;obtain⟨s,_,hl,q,ea⟩:=FH _ _ _ _ _ e;obtain⟨hl,hto⟩:=aw.1 hl;obtain⟨x,m,hx,_,_,rfl⟩:=LH hl;have ht:(t:Int)<(s:Int):=ht;by_cases hu:Uv v t
  .exact .inl hu
  .obtain⟨y,ey⟩:=V.Ma hb hk (t:=t) (SA hx) mD hu;refine .inr (.inl ⟨⟨2,n.me,Y,X2,QJ t r.b y,[]⟩,?_,rfl,rfl,rfl⟩);rw[ea];refine an.2 (.inl (aF.2 ⟨t,a4.2 mD,aw.2 ⟨?_,by simp[sc]⟩⟩));rw[ey];exact aF.2 ⟨Y,a4.2 hY,aa.2 rfl⟩
end
section
variable {C:List Cm} {b:Yg} {Pb:Int->Cm->Prop} {e:Int} {L X:Nat}
def Wb(b:Yg)(n:Nd):Nat:=2*((if n.Zr.p=b then 1 else 0)+(n.Zr.l.filter (fun v=>decide (v.b=b))).length)+(if n.Zp.isSome=true then 1 else 0)
end
section
variable {S:Cm->Prop} {C:List Cm} {b:Yg} {L T:Nat} {w:Nat->Wd} {g:Nat->Gh} {M:Nat->Nat->Yg} {e:Nat} {Q:List Cm}
end
def IB(n:Nd)(l:Yn):(Zx n l).n.data.length<=(U n.data)+38/\((Zx n l).n.Zp=al->(Zx n l).n.data.length<=(U n.data)):=by
 rcases (Xy n l).2 with k|⟨_,_,_,_,e⟩|⟨_,_,_,_,e⟩
 .rw[k.data];exact⟨mD,fun _=>am _⟩
 .rw[e];refine⟨?_,fun q=>by cases q⟩;show (n.data++YS (JF l.b)).length<=_;rw[au,RP];omega
 .rw[e];refine⟨?_,fun q=>by cases q⟩;show (n.data++YS (Uc l.v)).length<=_;rw[au,Ba];omega
def Ms:∀(k:List Yn) (n:Nd),(Zy n k).n.data.length<=(U n.data)+38/\((Zy n k).n.Zp=al->(Zy n k).n.data.length<=(U n.data)):=by
 intro k
 induction k with
 | nil=>intro n;unfold Zy;exact⟨by simp only;omega,fun _=>am _⟩
 | cons l k ih=>
  intro n;unfold Zy;split
  .exact⟨by simp only;omega,fun _=>am _⟩
  .obtain⟨h1,h2⟩:=IB { n with Zf:=k } l;have h1:(Zx { n with Zf:=k } l).n.data.length<=(U n.data)+38:=h1;have h2:(Zx { n with Zf:=k } l).n.Zp=al->(Zx { n with Zf:=k } l).n.data.length<=(U n.data):=h2;obtain⟨h3,h4⟩:=ih (Zx { n with Zf:=k } l).n;show (Zy (Zx { n with Zf:=k } l).n k).n.data.length<=_/\((Zy (Zx { n with Zf:=k } l).n k).n.Zp=al->(Zy (Zx { n with Zf:=k } l).n k).n.data.length<=_)
   by_cases q:(Zx { n with Zf:=k } l).n.Zp=al
   .have:=h2 q;exact⟨mD,fun q2=>by have:=h4 q2;omega⟩
   .have hs:(Zx { n with Zf:=k } l).n.Zp.isSome=true:=by
     cases e:(Zx { n with Zf:=k } l).n.Zp with
     | none=>exact absurd e q
     | some p=>rfl
    have e:(Zy (Zx { n with Zf:=k } l).n k).n = { (Zx { n with Zf:=k } l).n with Zf:=(Zy (Zx { n with Zf:=k } l).n k).n.Zf }:=by
     cases k with
     | nil=>unfold Zy;rfl
     | cons a k=>unfold Zy;rw[if_pos hs]
    rw[e];exact⟨h1,fun q2=>absurd q2 q⟩
def sf(n:Nd)(hb:Blank n.Zh/\((Zy n n.Zf).n.Zp=al->Blank (Zy n n.Zf).n.Zh)):(step n).n.data.length<=(U n.data)+38:=by
 unfold step;split
 .cases hp:n.Zp with
  | some p=>
   simp only;have:(Yp (ZJ n) p).n.data.length<=(U n.data):=by
    have e:(Yp (ZJ n) p).n.data=(ZJ n).data:=by cases p<;>rfl
    rw[e];show (if YT n.data n.Y5 then n.data else []).length<=_;split
    .exact am _
    .exact bw _
   omega
  | none=>
   simp only;obtain⟨h1,h2⟩:=Ms n.Zf n;split
   .exact h1
   .rename_i q;have q0:(Zy n n.Zf).n.Zp=al:=by
     cases e:(Zy n n.Zf).n.Zp with
     | none=>rfl
     | some p=>rw[e]at q;exact absurd rfl q
    have:=h2 q0;show (YH (Zy n n.Zf).n).n.data.length<=_;rcases (Xh q0 (hb.2 q0)).1.Zp with⟨_,e⟩|⟨_,_,_,_,e,_⟩
    .rw[e];omega
    .rw[e,au,RP];omega
 .exact a5 _ _
section
variable {S:Cm->Prop} {C:List Cm} {b:Yg} {L:Nat} {w0:Wd}
def Zax(hC:(U C)<=100000)(hb:ZC b)(pw:PW C b L w0):∀t,PW C b L (YC t w0):=by
 intro t
 induction t with
 | zero=>exact pw
 | succ t ih=>exact jR ih hC hb
def Mt(hC:(U C)<=100000)(hb:ZC b)(pw:PW C b L w0)(hX:X<5){d:Nat}(hd:(w0.Zc X).data.length<=d):∀t,((YC t w0).Zc X).data.length<=d+38*t:=by
 intro t
 induction t with
 | zero=>exact hd
 | succ t ih=>
  have P:=Zax hC hb pw t;have PX:=P.nd X hX;show ((DN (YC t w0)).Zc X).data.length<=_;rw[J7 _ X hX PX.up];have:=sf ((YC t w0).Zc X) ⟨PX.Yk,fun _=>(JQ (JT (C:=C) (b:=b) (L:=L) hX hC hb) _ _ PX (P.QD X hX)).1.Yk⟩;show (step ((YC t w0).Zc X)).n.data.length<=_;omega
def dx(hc:Ti []∈C):∀a∈Vj.map Raw.ac,cI S C a:=fun a ha=>by
 obtain⟨x,hx,rfl⟩:=a7.1 ha;have step:∀n,n<5->cI S C (UH n).ac:=fun n hn=>⟨⟨by show ((n:Nat):Int).toNat<5;omega,hc⟩,by show (0:Int)<=0;omega,fun now h=>by cases h⟩
 unfold Vj at hx;rcases an.1 hx with hx|hx
 .obtain⟨n,hn,rfl⟩:=DL hx;exact step n hn
 .rw[aa.1 hx];exact⟨⟨KC,hc⟩,by show (0:Int)<=0;omega,fun now h=>by cases h⟩
def Zay(w:Wd):DN w=(Vj.map Raw.ac).foldl act w:=by
 show _=act (act (act (act (act (act w (UH 0).ac) (UH 1).ac) (UH 2).ac) (UH 3).ac) (UH 4).ac) Kv.ac;rw[Uq,Uq,Uq,Uq,Uq,mj];rfl
def Zaz(hC:(U C)<=100000)(hc:Ti []∈C){k:Nat}{g0:Gh}{M0:Nat->Yg}(W:WI C k w0)(T0:TI S g0 M0 w0):∀T,∃(g:Nat->Gh) (M:Nat->Nat->Yg),g 0=g0/\(∀t,t<=T->TI S (g t) (M t) (YC t w0))/\(∀t,t<T->∀j b s x,(g t).V j b s x->(g (t+1)).V j b s x)/\∃k,WI C k (YC T w0):=by
 intro T
 induction T with
 | zero=>exact⟨fun _=>g0,fun _=>M0,rfl,fun t ht=>by rw[show t=0 by omega];exact T0,fun t ht=>by omega,k,W⟩
 | succ T ih=>
  obtain⟨g,M,h0,h1,h2,k,hW⟩:=ih;obtain⟨g',M',v,TT,WW⟩:=cJ hC (Vj.map Raw.ac) k (YC T w0) (g T) (M T) hW (h1 T (am _)) (dx hc);rw[<-Zay]at TT WW;refine⟨fun t=>if t<=T then g t else g',fun t=>if t<=T then M t else M',by simp only[bw,if_true];exact h0,fun t ht=>?_,fun t ht=>?_,_,WW⟩
  .by_cases e:t<=T
   .simp only[if_pos e];exact h1 t e
   .simp only[if_neg e];rw[show t=T+1 by omega];exact TT
  .by_cases e:t+1<=T
   .simp only[if_pos e,if_pos (show t<=T by omega)];exact h2 t mD
   .have:t=T:=mD;subst this;simp only[am,if_true,if_neg e];exact v
def ZdY(hC:(U C)<=100000)(hc:Ti []∈C)(hb:ZC b)(hL:L<5)(hn:b.n=L)(hS:∀x,S x->x.err=0){k:Nat}{g0:Gh}{M0:Nat->Yg}(W:WI C k w0)(T0:TI S g0 M0 w0)(pw:PW C b L w0){T:Nat}(hd:∀X,X<5->(w0.Zc X).data.length+38*T<=99900):
  ∃g M,g 0=g0/\QA S C b L T (fun t=>YC t w0) g M:=by
 obtain⟨g,M,h0,h1,h2,_⟩:=Zaz hC hc W T0 T;refine⟨g,M,h0,hC,hb,hL,hn,fun t=>rfl,pw,fun t ht X hX hf=>?_,h1,h2,hS⟩;have:=Mt hC hb pw hX (am _) t;have:=hd X hX;unfold Full at hf;have h4:38*t<=38*T:=bl _ ht;omega
end
def PV(c:Nat)(v:Vw)(X:Nat):Ny->Prop
 | .Q8 _ _ b _=>(X,b,-1,false)∈v.H/\b∈v.K
 | .Wo _ _ x=>(X,x.b,x.Zs,false)∈v.H/\0<=x.Zs/\x.Zs<40/\∃i,v.B[i]? = ak x.b/\Nk (Mr v) (x.Zs.toNat+1) (c*(i+1))/\Nk (Uv v) x.Zs.toNat (gT v+1)
 | .Zr a _ _=>(X,a.p,-1,false)∈v.H/\a.p∈v.K
structure NV(C:List Cm)(v:Vw)(X:Nat)(n:Nd):Prop where
 acc:∀x∈(YD n).l,SX v (U C) 0 x/\Dn v X x.b x.Zs
 Q8:(YD n).p=X2\/Pm v X (YD n).p
 k0:K0 v (YD n).p/\K0 v n.Ye
 Zr:∀b∈v.B,b.n=X->¬Zw (YD n).p b
 Zp:∀p,n.Zp=ak p->PV (U C) v X p
 Zi:∀s:Nat,Has n.Zi s->Mr v s
 Zh:∀r,n.Zh=ak r->RV C v X n.Zi r
def TK(n:Nd):List Yn:=match n.Zp with
 | some (.Wo _ _ x)=>[⟨2,0,0,X2,x,[]⟩]
 | _=>[]
structure St(v w:Vw)(d:Nat):Prop where
 le:v.Le w
 c:w.cost<=v.cost+d
 b:w.B=v.B
 k:w.K=v.K
def St.refl(v:Vw)(d:Nat):St v v d:=⟨.refl v,a5 _ _,rfl,rfl⟩
def Vw.put(v:Vw)(x:Nat × Yg × Int × Bool):Vw:={ v with H:=x :: v.H }
def St.put(v:Vw)(x:Nat × Yg × Int × Bool):St v (v.put x) 1:=
 ⟨⟨fun y h=>a6 _ h,fun _ _ h=>h,fun _ h=>h,am _⟩,by simp[Vw.put,Vw.cost];omega,rfl,rfl⟩
section
variable {C C':List Cm} {v w:Vw} {X:Nat} {n m:Nd} {S:Cm->Prop} {g:Gh} {M:Nat->Yg}
def PV.up(L:v.Le w){c:Nat}{p:Ny}(h:PV c v X p):PV c w X p:=by
 cases p with
 | Q8 a to b vs=>exact⟨L.h _ h.1,L.k _ h.2⟩
 | Wo a to x=>
  obtain⟨h0,h1,h2,i,h3,h4,h5⟩:=h;exact⟨L.h _ h0,h1,h2,i,L.b _ _ h3,h4.up L.ch (am _) (am _),h5.up L.u (am _) (by have:=L.g;omega)⟩
 | Zr a vs cur=>exact⟨L.h _ h.1,L.k _ h.2⟩
def NV.up(L:v.Le w)(hB:∀b∈w.B,b∈v.B\/b.n≠X)(h:NV C v X n):NV C w X n:=
 ⟨fun x hx=>⟨(h.acc x hx).1.up L,L.dn (h.acc x hx).2⟩,h.Q8.imp_right (Pm.up L),⟨h.k0.1.up L,h.k0.2.up L⟩,fun b hb e=>h.Zr b ((hB b hb).resolve_right fun q=>q e) e,fun p hp=>(h.Zp p hp).up L,fun s hs=>L.ch _ (h.Zi s hs),fun r hr=>(h.Zh r hr).up L (fun q=>(hB _ q).resolve_right fun q=>q (h.Zh r hr).ZX) (fun _ h=>h)⟩
def NV.st{d:Nat}(s:St v w d)(h:NV C v X n):NV C w X n:=h.up s.le fun b hb=>.inl (by rw[<-s.b];exact hb)
def NV.same(h:NV C v X n)(e:YD m=YD n)(h4:K0 v m.Ye)(h5:∀p,m.Zp=ak p->PV (U C) v X p)(h7:∀s:Nat,Has m.Zi s->Mr v s)(h8:∀r,m.Zh=ak r->RV C v X m.Zi r):NV C v X m:=
 ⟨by rw[e];exact h.acc,by rw[e];exact h.Q8,⟨by rw[e];exact h.k0.1,h4⟩,by rw[e];exact h.Zr,h5,h7,h8⟩
def LJ:∀(k:Nat) (n:Nd),(Yr k n).1.Ye=n.Ye/\(Yr k n).1.Zh=n.Zh:=by
 intro k
 induction k with
 | zero=>intro n;exact⟨rfl,rfl⟩
 | succ k ih=>
  intro n;unfold Yr;split
  .exact⟨rfl,rfl⟩
  .exact ih _
def NV.X9(h:NV C v X n){s:Int}(hs:0<=s){x:Cm}(hc:Mr v s.toNat):NV C v X (X9 n s x).n:=by
 obtain⟨K,_,_⟩:=Qe n s x;have ek:(Go.Proofs.YtnhfdnlcpdbjlaaGreatDoor.X9 n s x).n.Zi=ins n.Zi s x:=(NB _ (XV n s x)).2;obtain⟨e1,e2⟩:=LJ ((XV n s x).Zi.length+1) (XV n s x);have e2:(Go.Proofs.YtnhfdnlcpdbjlaaGreatDoor.X9 n s x).n.Zh=n.Zh:=e2;refine h.same (by unfold YD;rw[K.go.up,K.Zr,K.data]) (by rw[show (Go.Proofs.YtnhfdnlcpdbjlaaGreatDoor.X9 n s x).n.Ye=n.Ye from e1];exact h.k0.2) (fun p hp=>h.Zp p (by rw[<-K.Zp];exact hp)) (fun t ht=>?_) fun r hr=>(h.Zh r (by rw[<-e2];exact hr)).up (.refl v) (fun q=>q) K.go.Zi;rw[ek]at ht;unfold Has at ht;rw[Xl]at ht;split at ht
 .rename_i e;rw[show t=s.toNat by omega];exact hc
 .exact h.Zi t ht
def NV.box(h:NV C v X n)(k:List Yn):NV C v X { n with Zf:=k }:=h.same rfl h.k0.2 h.Zp h.Zi h.Zh
def HV(C:List Cm)(v:Vw)(X:Nat)(n:Nd)(k:List Yn)(o:Out):Prop:=
 ∃w,St v w (if o.n.Zp=al then 0 else 1)/\NV C w X o.n/\(∀m∈o.ls,LV (U C) w m)/\FI w n.Zr.p (TK o.n++k)/\o.n.Zr=n.Zr
def JI(h:n.Zp=al):TK n=[]:=by unfold TK;rw[h]
def HV.Zo{k:List Yn}(hp:n.Zp=al){o:Out}(e1:o.n.Zp=al)(e2:o.n.Zr=n.Zr)(h:NV C v X o.n)(hl:∀m∈o.ls,LV (U C) v m)(F:FI v n.Zr.p k):HV C v X n k o:=
 ⟨v,.refl v _,h,hl,by rw[JI e1];exact F,e2⟩
def LV.plain{c:Nat}{l:Yn}(h:l.ZH=4\/l.ZH=5\/l.ZH=7)(hb:K0 v l.b):LV c v l:=
 ⟨hb,fun e=>by omega,fun e=>by omega,fun e=>by omega,fun e=>by omega,fun e=>by omega⟩
def ZdZ(hX:X<5)(G:GI S g M)(N:NR S g M X n)(hu:n.up=true)(NI:Qq C' X n){x:Vt}(hv:Yu x)(hle:¬Zw x.b n.Zr.p):Xc n.Zr.p n.Zr.l x=0:=by
 have A:=N.acc;have hm:=N.m;rw[Yf hu]at A hm;unfold Xc;rw[if_neg (by rw[Ri NI.Zr fun v hv=>by rw[<-hm];exact G.Z5 _ _ _ _ (A.has v hv)];simp),if_neg (fun q=>q hv),if_neg hle]
def ZaA(N:NR S g M X n)(hu:n.up=true)(hp:n.Zp=al)(hr:(U n.data)<=90000){x:Vt}(hv:Yu x):Qn n.data n.Y5 x=0:=by
 obtain⟨_,h2⟩:=N.tape.idle hu hp;have hl:=N.tape.len;have ht:YT n.data n.Y5:=⟨hl,mD,mD⟩
 unfold Qn JX;rw[if_neg (fun q=>q ht),if_neg (fun q=>q hv),if_neg (fun q=>q ht),if_neg mD]
def Zd0{l:Yn}(G:GI S g M)(hS:∀x,S x->x.err=0)(LI:Qb C' l)(L:LR S g M l)(hk:l.ZH=2):Yu l.v:=by
 have hP:=L.ask hk;have hx:l.v.cm.err=0:=by
  rcases G.cmd _ _ _ hP with q|q
  .rw[q];rfl
  .exact hS _ q
 have:=LI.Zs;exact⟨⟨this.1,mD⟩,G.may _ _ _ hP,hx⟩
def ZaB(hX:X<5)(G:GI S g M)(N:NR S g M X n)(hS:∀x,S x->x.err=0)(hu:n.up=true)(hp:n.Zp=al)(NI:Qq C' X n)(hr:(U n.data)<=90000)(V:NV C v X n){l:Yn}{k:List Yn}(LI:Qb C' l)(L:LR S g M l)(hl:LV (U C) v l)(F:FI v n.Zr.p (l :: k)):HV C v X n k (Zx n l):=by
 have eA:=Yf hu;have acc:=V.acc;have Q8:=V.Q8;have k0:=V.k0.1;rw[eA]at acc Q8 k0;have Ft:l.ZH≠2->FI v n.Zr.p k:=fun e=>F.tail fun q=>absurd q e;have hn:NV C v X (Xo n l)/\(Xo n l).Zp=al/\(Xo n l).Zr=n.Zr:=by
  unfold Xo;split
  .exact⟨V.same rfl hl.b V.Zp V.Zi V.Zh,hp,rfl⟩
  .exact⟨V,hp,rfl⟩
 have al:∀m∈([]:List Yn),LV (U C) v m:=fun m hm=>by cases hm
 unfold Zx;split
 .rename_i hk;have F:=Ft mD;unfold Y3;split
  .exact .Zo hp hp rfl V (fun m hm=>by rw[aa.1 hm];exact .plain (.inr (.inr rfl)) k0) F
  .rename_i q1;have hb:=Re (by simpa using q1:YF n.Zr.p n.Zr.l l.b=0);split
   .rename_i e;refine .Zo hp hp rfl V (fun m hm=>?_) F;rw[aa.1 hm];refine⟨hl.b,(fun h=>by cases h),fun _=>⟨?_,fun x hx=>(acc x hx).1⟩,(fun h=>by cases h),(fun h=>by cases h),fun h=>by cases h⟩;show Pm v ((n.me:Nat):Int).toNat l.b;rw[a0,NI.me,<-e];refine Q8.resolve_left fun q=>?_;rw[<-e,q]at hb;exact absurd hb.1.1 KC
   .split
    .exact .Zo hp hp rfl V al F
    .refine⟨v.put (X,l.b,-1,false),St.put _ _,?_,(fun m hm=>by cases hm),F.up (St.put _ _).le (YR _),rfl⟩;have V2:=V.st (St.put v (X,l.b,-1,false));refine V2.same (by rw[eA];exact Yf hu) V2.k0.2 (fun p h=>?_) V2.Zi V2.Zh;obtain rfl:=Option.some.inj h;exact⟨aU ..,hl.pre hk⟩
 split
 .rename_i hk;have F:=Ft mD;unfold Yx
  cases tO:n.Zh with
  | none=>exact .Zo hp hp rfl V al F
  | some r=>
   have R:=V.Zh r tO;have rg:∀r',RV C v X n.Zi r'->NV C v X { n with Zh:=ak r' }:=fun r' R'=>V.same rfl V.k0.2 V.Zp V.Zi fun x e=>by
    rw[<-Option.some.inj e];exact R'
   simp only;split
   .rename_i k1;split
    .rename_i e;refine .Zo hp hp rfl (rg _ ⟨R.ZX,R.mq,fun j vs q=>?_,R.YY,R.new,R.Ga⟩) al F;have q:Yl (ins r.ZL l.JA l.vs) j=ak vs:=q;rw[Xl]at q;split at q
     .rename_i ej;rw[<-ej,<-Option.some.inj q];show Pm v _ r.b/\_;rw[<-e];exact hl.Q8 k1
     .exact R.ZL j vs q
    .exact .Zo hp hp rfl V al F
   .rename_i k1;have k3:l.ZH=3:=mD;split
    .exact .Zo hp hp rfl V al F
    .rename_i e;have e:l.v.b=r.b:=by simpa using e
     have hd:=hl.Wo k3;rw[e]at hd;have hg:∀j,Yl (Qp r l) j=ak ()->Dn v j.toNat r.b l.v.Zs:=fun j q=>by
      unfold Qp at q;rw[Xl]at q;split at q
      .rename_i ej;rw[<-ej];exact hd
      .cases e3:Yl r.YY l.v.Zs with
       | none=>rw[e3]at q;cases q
       | some K=>rw[e3]at q;exact R.YY _ K j e3 q
     have V1:NV C v X (Ta n r l):=rg _ ⟨R.ZX,R.mq,R.ZL,fun s K j q1 q2=>by
      have q1:Yl (ins r.YY l.v.Zs (Qp r l)) s=ak K:=q1;rw[Xl]at q1;split at q1
      .rename_i es;rw[<-Option.some.inj q1]at q2;rw[<-es];exact hg j q2
      .exact R.YY s K j q1 q2,R.new,R.Ga⟩
     split
     .rename_i h5;obtain⟨K,_,ls⟩:=Qe (Ta n r l) l.v.Zs l.v.cm;refine .Zo hp (by rw[K.Zp];exact hp) K.Zr (V1.X9 LI.Zs.1 ?_) (by rw[ls];exact al) F;have RI:=NI.Zh r tO;have hKI:Th 5 (Qp r l):=by
       unfold Qp;refine Th.ins ?_ ⟨LI.JA.1,by have:=LI.JA.2;omega⟩ _
       cases e3:Yl r.YY l.v.Zs with
       | none=>exact .nil 5
       | some K=>exact RI.Su _ (TW e3)
      refine⟨r.b,_,hKI.maj h5,fun i hi=>?_⟩;obtain⟨u,hu⟩:=hKI.back hi;have:=hg _ hu;rw[a0]at this;rw[show ((l.v.Zs.toNat:Nat):Int)=l.v.Zs by have:=LI.Zs.1;omega];exact this
     .exact .Zo hp hp rfl V1 al F
 split
 .rename_i hk;have hv:=Zd0 G hS LI L hk;obtain⟨s0,s1,i,s2,s3,s4⟩:=hl.ask hk;unfold asked;split
  .rename_i q;refine .Zo hp hp rfl V (fun m hm=>by rw[aa.1 hm];exact .plain (.inr (.inr rfl)) k0) (F.tail fun _=>.inr ?_);exact Classical.byContradiction fun h=>q (ZdZ hX G N hu NI hv h)
  .rename_i q;have hle:=UY (by simpa using q:Xc n.Zr.p n.Zr.l l.v=0);split
   .rename_i q2;obtain⟨_,hd⟩:=acc _ q2;refine .Zo hp hp rfl V (fun m hm=>?_) (F.tail fun _=>.inl ⟨X,l.v.b,by rw[show ((l.v.Zs.toNat:Nat):Int)=l.v.Zs by omega];exact hd⟩);rw[aa.1 hm];refine⟨.inl rfl,(fun h=>by cases h),(fun h=>by cases h),(fun h=>by cases h),fun _=>?_,fun h=>by cases h⟩;show Dn v ((n.me:Nat):Int).toNat l.v.b l.v.Zs;rw[a0,NI.me];exact hd
   .rw[if_neg (by rw[ZaA N hu hp hr hv];decide)];refine⟨v.put (X,l.v.b,l.v.Zs,false),St.put _ _,?_,(fun m hm=>by cases hm),(F.head (l':=⟨2,0,0,X2,l.v,[]⟩) hk.symm rfl).up (St.put _ _).le (YR _),rfl⟩;have V2:=V.st (St.put v (X,l.v.b,l.v.Zs,false));refine V2.same (by rw[eA];exact Yf hu) V2.k0.2 (fun p h=>?_) V2.Zi V2.Zh;obtain rfl:=Option.some.inj h;have L2:=(St.put v (X,l.v.b,l.v.Zs,false)).le;exact⟨aU ..,s0,s1,i,s2,s3.up L2.ch (am _) (am _),(F.here hk hle s0).up L2.u (am _) (am _)⟩
 rename_i k2;have F:=Ft k2;split
 .obtain⟨K,_⟩:=DO n l.v.cm;have e:(add n l.v.cm).Ye=n.Ye/\(add n l.v.cm).Zi=n.Zi/\(add n l.v.cm).Zh=n.Zh:=by unfold add;split<;>exact⟨rfl,rfl,rfl⟩
  exact .Zo hp (by rw[K.Zp];exact hp) K.Zr (V.same (by unfold YD;rw[K.go.up,K.Zr,K.data]) (by rw[e.1];exact V.k0.2) (fun p h=>V.Zp p (by rw[<-K.Zp];exact h)) (by rw[e.2.1];exact V.Zi) (by rw[e.2.1,e.2.2];exact V.Zh)) al F
 split
 .unfold JY;split
  .rename_i x hx;refine .Zo hp hn.2.1 hn.2.2 hn.1 (fun m hm=>?_) F;rw[aa.1 hm];refine⟨.inl rfl,(fun h=>by cases h),(fun h=>by cases h),(fun h=>by cases h),(fun h=>by cases h),fun _=>?_⟩;refine V.Zi _ ?_;rw[show (((QJ l.v.Zs X2 x).Zs.toNat:Nat):Int)=l.v.Zs by have:=LI.Zs.1;show ((l.v.Zs.toNat:Nat):Int)=_;omega];exact SA hx
  .exact .Zo hp hn.2.1 hn.2.2 hn.1 al F
 split
 .rename_i k6;obtain⟨K,_,ls⟩:=Qe n l.v.Zs l.v.cm;exact .Zo hp (by rw[K.Zp];exact hp) K.Zr (V.X9 LI.Zs.1 (hl.cho k6)) (by rw[ls];exact al) F
 .exact .Zo hp hn.2.1 hn.2.2 hn.1 al F
end
structure Go1(v w:Vw)(X d:Nat):Prop where
 le:v.Le w
 c:w.cost<=v.cost+d
 k:w.K=v.K
 b:w.B=v.B\/∃b,w.B=v.B++[b]/\b.n=(X:Int)/\b ∉ v.B/\b∈v.K/\∃Q,tM Q/\∀i∈Q,Dn w i b (-1)
section
variable {C C':List Cm} {u v w:Vw} {X:Nat} {n m:Nd} {S:Cm->Prop} {g:Gh} {M:Nat->Yg}
def St.go{d:Nat}(s:St v w d):Go1 v w X d:=⟨s.le,s.c,s.k,.inl s.b⟩
def Go1.refl(v:Vw)(d:Nat):Go1 v v X d:=(St.refl v d).go
def St.go1{d e:Nat}(s:St u v d)(h:Go1 v w X e):Go1 u w X (d+e):=
 ⟨s.le.trans h.le,by have:=s.c;have:=h.c;omega,by rw[h.k,s.k],by
  rcases h.b with q|⟨b,q1,q2,q3,q4,q5⟩
  .exact .inl (by rw[q,s.b])
  .exact .inr ⟨b,by rw[q1,s.b],q2,by rw[<-s.b];exact q3,by rw[<-s.k];exact q4,q5⟩⟩
def Tq(h:n.Zp≠al)(k:List Yn):Zy n k=⟨{ n with Zf:=k },[],[]⟩:=by
 cases k with
 | nil=>rfl
 | cons l k=>
  unfold Zy;rw[if_pos]
  cases e:n.Zp with
  | none=>exact absurd e h
  | some p=>rfl
def Zd2(hX:X<5)(G:GI S g M)(hS:∀x,S x->x.err=0):∀(k:List Yn) (n:Nd) (v:Vw),NR S g M X n->n.up=true->n.Zp=al->Qq C' X n->(U n.data)<=90000->NV C v X n->(∀l∈k,(Qb C' l/\LR S g M l)/\LV (U C) v l)->FI v n.Zr.p k ->
  ∃w,St v w (if (Zy n k).n.Zp=al then 0 else 1)/\NV C w X (Zy n k).n/\(∀m∈(Zy n k).ls,LV (U C) w m)/\FI w n.Zr.p (TK (Zy n k).n++(Zy n k).n.Zf)/\(Zy n k).n.Zr=n.Zr/\∀l∈(Zy n k).n.Zf,l∈k:=by
 intro k
 induction k with
 | nil=>
  intro n v N hu hp NI hr V _ F;exact⟨v,.refl v _,V.box _,(fun m hm=>by cases hm),by rw[JI (show (Zy n []).n.Zp=al from hp)];exact F,rfl,fun l hl=>by cases hl⟩
 | cons l k ih=>
  intro n v N hu hp NI hr V hk F;have e:Zy n (l :: k)=⟨(Zy (Zx { n with Zf:=k } l).n k).n,(Zx { n with Zf:=k } l).ls++(Zy (Zx { n with Zf:=k } l).n k).ls,(Zx { n with Zf:=k } l).ts++(Zy (Zx { n with Zf:=k } l).n k).ts⟩:=by
   conv=>lhs;unfold Zy
   rw[if_neg (by rw[hp];decide)]
  rw[e];obtain⟨⟨h1,h2⟩,h3⟩:=hk l sW;obtain⟨w,s,V1,L1,F1,o1⟩:=ZaB hX G (N.box k) hS hu hp (NI.Zf k) hr (V.box k) h1 h2 h3 F;have H:=cG hX G (N.box k) hu hp (NI.Zf k) h1 h2;have I:=(Ok hX (NI.Zf k) h1).nd;by_cases q:(Zx { n with Zf:=k } l).n.Zp=al
  .rw[if_pos q]at s;have hd:=(IB { n with Zf:=k } l).2 q;obtain⟨w2,s2,V2,L2,F2,o2,B2⟩:=ih _ w H.n H.up q I (bp hd hr) V1 (fun x hx=>⟨(hk x (by simp[hx])).1,(hk x (by simp[hx])).2.up s.le⟩) (by
    rw[JI q]at F1;rw[o1];exact F1)
   refine⟨w2,⟨s.le.trans s2.le,by have:=s.c;have:=s2.c;simp only;omega,by rw[s2.b,s.b],by rw[s2.k,s.k]⟩,V2,fun x hx=>?_,by rw[o1]at F2;exact F2,by rw[o2];exact o1,fun x hx=>a6 _ (B2 x hx)⟩;rcases an.1 hx with hx|hx
   .exact (L1 x hx).up s2.le
   .exact L2 x hx
  .rw[Tq q k];refine⟨w,s,V1.box k,fun x hx=>?_,F1,o1,fun x hx=>a6 _ hx⟩;rw[bz]at hx;exact L1 x hx
def mw(G:GI S g M)(N:NR S g M X n)(hu:n.up=true)(NI:Qq C' X n){b:Yg}(hb:ZC b)(hle:¬Zw b n.Zr.p):YF n.Zr.p n.Zr.l b=0:=by
 have A:=N.acc;have hm:=N.m;rw[Yf hu]at A hm;unfold YF;rw[if_neg (by rw[Ri NI.Zr fun v hv=>by rw[<-hm];exact G.Z5 _ _ _ _ (A.has v hv)];simp),if_neg (fun q=>q hb),if_neg hle]
def WX:∀(k:List Yn) (n:Nd),∀m∈(Zy n k).ls,m.ZH≠0/\m.ZH≠2:=by
 intro k
 induction k with
 | nil=>intro n m hm;cases hm
 | cons l k ih=>
  intro n m hm;unfold Zy at hm;split at hm
  .cases hm
  .rcases an.1 hm with hm|hm
   .exact (Xy _ l).1 m hm
   .exact ih _ m hm
def FK:∀(k:List Yn) (n:Nd),n.Zp=al->∀p,(Zy n k).n.Zp=ak p->(Zy n k).n.Zr=n.Zr/\∃j l,k=j++l :: (Zy n k).n.Zf /\
  ((l.ZH=0/\YF n.Zr.p n.Zr.l l.b=0/\n.Zr.p≠l.b/\XW p=⟨l.b,n.Zr.l⟩)\/(l.ZH=2/\Xc n.Zr.p n.Zr.l l.v=0/\l.v ∉ n.Zr.l/\XW p=⟨l.v.b,Jh n.Zr.l l.v⟩)):=by
 intro k
 induction k with
 | nil=>
  intro n hp p h;have h:n.Zp=ak p:=h;rw[hp]at h;cases h
 | cons l k ih=>
  intro n hp p h;unfold Zy at h ⊢;rw[if_neg (by rw[hp];decide)]at h ⊢;simp only at h ⊢;rcases (Xy { n with Zf:=k } l).2 with K|⟨a,b,c,_,e⟩|⟨a,b,c,_,e⟩
  .have eo:(Zx { n with Zf:=k } l).n.Zr=n.Zr:=K.Zr;obtain⟨h1,j,m,h2,h3⟩:=ih _ (by rw[K.Zp];exact hp) p h;rw[eo]at h1 h3;refine⟨h1,l :: j,m,?_,h3⟩;rw[bf,<-h2]
  .have eq:Zy (Zx { n with Zf:=k } l).n k=⟨{ (Zx { n with Zf:=k } l).n with Zf:=k },[],[]⟩:=Tq (by rw[e];exact fun q=>by cases q) k;rw[eq,e]at h ⊢;obtain rfl:=Option.some.inj h;exact⟨rfl,[],l,rfl,.inl ⟨a,b,c,rfl⟩⟩
  .have eq:Zy (Zx { n with Zf:=k } l).n k=⟨{ (Zx { n with Zf:=k } l).n with Zf:=k },[],[]⟩:=Tq (by rw[e];exact fun q=>by cases q) k;rw[eq,e]at h ⊢;obtain rfl:=Option.some.inj h;exact⟨rfl,[],l,rfl,.inr ⟨a,b,c,rfl⟩⟩
structure DV(C:List Cm)(v:Vw)(X:Nat)(n:Nd)(o:Out)(w:Vw):Prop where
 go:Go1 v w X 1
 nd:NV C w X o.n
 l:∀m∈o.ls,LV (U C) w m
 j:FJ w o.ls
 f:∀Y,Y<5->∀p,FI w p (o.ls.filter (sc Y))
 p:TK o.n=[]
 ow:o.n.Zr=n.Zr
 ib:o.n.Zf=n.Zf
def DV.plain{o:Out}(h1:NV C v X o.n)(h2:∀m∈o.ls,LV (U C) v m/\m.ZH≠2)(h3:TK o.n=[])(h4:o.n.Zr=n.Zr)(h5:o.n.Zf=n.Zf):DV C v X n o v:=
 ⟨.refl v 1,h1,fun m hm=>(h2 m hm).1,FJ.plain fun m hm=>(h2 m hm).2,fun _ _ _=>FI.plain fun m hm=>(h2 m (aw.1 hm).1).2,h3,h4,h5⟩
def ZhL(hX:X<5)(G:GI S g M)(N:NR S g M X n)(hu:n.up=true)(hp:n.Zp=al)(NI:Qq C' X n)(hq:∀x∈n.ZB,x∈C)(V:NV C v X n)(hr:n.Zh=ak r):∃w,DV C v X n (Jf n r) w:=by
 have R:=V.Zh r hr;have al:∀m∈([]:List Yn),LV (U C) v m/\m.ZH≠2:=fun m hm=>by cases hm
 unfold Jf;split
 .rename_i q;split
  .exact⟨v,.plain V al (JI hp) rfl rfl⟩
  .have hz:=mw G N hu NI (N.Zh r hr).may (Tj q);rw[if_pos hz,if_pos hz];have s:=St.put v (X,r.b,-1,false);have V2:=V.st s;refine⟨_,s.go,V2.same (by rw[Yf hu];exact Yf hu) V2.k0.2 (fun p h=>?_) V2.Zi V2.Zh,(fun m hm=>by cases hm),FJ.nil,fun _ _ _=>FI.nil,rfl,rfl,rfl⟩;obtain rfl:=Option.some.inj h;exact⟨aU ..,R.mq⟩
 .rename_i q;split
  .refine⟨v,.plain V (fun m hm=>?_) (JI hp) rfl rfl⟩;obtain⟨k,_,hm⟩:=aF.1 hm;split at hm
   .rw[aa.1 hm];exact⟨⟨.inr R.mq,fun _=>R.mq,(fun h=>by cases h),(fun h=>by cases h),(fun h=>by cases h),fun h=>by cases h⟩,by show (0:Int)≠2;decide⟩
   .cases hm
  .rename_i h5;have RI:=NI.Zh r hr;have hl:∀t,t<n.ZI.length->Has n.Zi (t:Int):=fun t ht e=>by
    have:=NI.ZI t ht;rw[e]at this;cases this
   obtain⟨w,L,c,⟨eH,eK,eT⟩,eB,R2,bg⟩:=R.rules RI V.Zi hl NI.Kr hq;have eb:(Xi n r).b=r.b:=(UI n r fun e=>(R.new e).2).1.b;have hB:∀b∈w.B,b∈v.B\/b=r.b:=fun b hb=>by
    rcases eB with e|⟨e,_⟩
    .exact .inl (by rw[<-e];exact hb)
    .rw[e]at hb;exact (an.1 hb).imp_right aa.1
   have hk:∀s:Nat,Has n.Zi s->Mr w s:=fun s h=>L.ch _ (V.Zi s h);obtain⟨a1,a2,a3⟩:=R2.asks bg hk;refine⟨w,⟨L,c,eK,?_⟩,⟨fun x hx=>⟨((V.acc x hx).1).up L,L.dn (V.acc x hx).2⟩,V.Q8.imp_right (Pm.up L),⟨V.k0.1.up L,V.k0.2.up L⟩,fun b hb e=>?_,fun p h=>(V.Zp p h).up L,hk,fun x e=>?_⟩,?_,?_,?_,JI hp,rfl,rfl⟩
   .rcases eB with e|⟨e,c0⟩
    .exact .inl e
    .refine .inr ⟨r.b,e,R.ZX,(R.new c0).1,R.mq,_,RI.ZL.maj mD,fun i hi=>L.dn ?_⟩;obtain⟨vs,h⟩:=RI.ZL.back hi;have:=(R.ZL _ _ h).1.resolve_right (R.new c0).1
     rwa [a0]at this
   .rcases hB b hb with h|h
    .exact V.Zr b h e
    .rw[h,show YD { n with Zh:=ak (Xi n r) } = YD n from rfl,Yf hu];exact q
   .rw[<-Option.some.inj e];exact R2
   .exact a1
   .exact a2
   .exact a3
def DV.more{o:Out}{k:List Yn}(D:DV C v X n o w){m:Nd}(h1:NV C w X m)(hk:∀l∈k,LV (U C) w l/\l.ZH≠2)(h3:TK m=[])(h4:m.Zr=o.n.Zr)(h5:m.Zf=o.n.Zf)(ts:List OS):DV C v X n ⟨m,o.ls++k,ts⟩ w:=
 ⟨D.go,h1,fun x hx=>(an.1 hx).elim (D.l x) fun hx=>(hk x hx).1,D.j.app (FJ.plain fun x hx=>(hk x hx).2),fun Y hY p=>by
  show FI w p ((o.ls++k).filter (sc Y));rw[bo];exact (D.f Y hY p).app (FI.plain fun x hx=>(hk x (aw.1 hx).1).2),h3,by rw[h4];exact D.ow,by rw[h5];exact D.ib⟩
def DV.of{o:Out}(D:DV C v X m o w)(h1:m.Zr=n.Zr)(h2:m.Zf=n.Zf):DV C v X n o w:=⟨D.go,D.nd,D.l,D.j,D.f,D.p,by rw[D.ow,h1],by rw[D.ib,h2]⟩
def ZhM(hX:X<5)(G:GI S g M)(N:NR S g M X n)(hu:n.up=true)(hp:n.Zp=al)(NI:Qq C' X n)(hq:∀x∈n.ZB,x∈C)(V:NV C v X n):∃w,DV C v X n (YH n) w:=by
 have D1:∃w,DV C v X n (Z1 (Zo n)) w:=by
  obtain⟨N1,p1,u1⟩:=Bf N hp hu;have NI1:=(Bc NI).1;have V1:NV C v X (Zo n)/\(Zo n).Zr=n.Zr/\(Zo n).Zf=n.Zf/\(Zo n).ZB=n.ZB:=by
   rcases UJ n with⟨_,e⟩|⟨_,_,_,e⟩|⟨_,_,_,e⟩
   .rw[e];exact⟨V,rfl,rfl,rfl⟩
   .rw[e];exact⟨V.same rfl V.k0.2 V.Zp V.Zi (fun r h=>by cases h),rfl,rfl,rfl⟩
   .rw[e];exact⟨V,rfl,rfl,rfl⟩
  obtain⟨V1,e1,e2,e3⟩:=V1;unfold Z1;split
  .rename_i r hr;obtain⟨w,D⟩:=ZhL hX G N1 u1 p1 NI1 (by rw[e3];exact hq) V1 hr;exact⟨w,D.of e1 e2⟩
  .split
   .refine⟨v,(DV.plain (n:=Zo n) V1 (fun m hm=>?_) (JI p1) rfl rfl).of e1 e2⟩;obtain⟨x,_,rfl⟩:=a7.1 hm;exact⟨.plain (.inl rfl) (.inl rfl),by show (4:Int)≠2;decide⟩
   .exact⟨v,(DV.plain (n:=Zo n) V1 (fun m hm=>by cases hm) (JI p1) rfl rfl).of e1 e2⟩
 obtain⟨w,D⟩:=D1;unfold YH;split
 .exact⟨w,D⟩
 .rename_i q;have q0:(Z1 (Zo n)).n.Zp=al:=by
   cases e:(Z1 (Zo n)).n.Zp with
   | none=>rfl
   | some p=>rw[e]at q;exact absurd rfl q
  have V2:NV C w X (Je (Z1 (Zo n)).n):=D.nd.same rfl D.nd.k0.2 D.nd.Zp D.nd.Zi D.nd.Zh;refine⟨w,D.more V2 (fun l hl=>?_) (JI q0) rfl rfl _⟩;unfold QU at hl;split at hl
  .rw[aa.1 hl];refine⟨.plain (.inr (.inl rfl)) ?_,by show (5:Int)≠2;decide⟩;have hu1:(Je (Z1 (Zo n)).n).up=true:=by
    have:(Z1 (Zo n)).n.up=(Zo n).up:=by
     unfold Z1;split
     .unfold Jf
      repeat' split
      all_goals rfl
     .split<;>rfl
    show (Z1 (Zo n)).n.up=true;rw[this];exact (Bf N hp hu).2.2
   show K0 w (Uo (Je (Z1 (Zo n)).n));unfold Uo;split
   .exact V2.k0.2
   .rw[<-Yf hu1];exact V2.k0.1
  .cases hl
def dy(N:NR S g M X n)(hu:n.up=true){p:Ny}(hp:n.Zp=ak p)(V:NV C v X n)(bk:∀b∈v.B,b∈v.K):
  ∃w,St v w 1/\(∀x∈(XW p).l,SX w (U C) 0 x/\Dn w X x.b x.Zs)/\Pm w X (XW p).p/\K0 w (XW p).p/\¬Zw (XW p).p n.Zr.p/\∀a to x,p=.Wo a to x->Dn w X x.b x.Zs:=by
 have A:=V.acc;rw[Yf hu]at A;have P:=V.Zp p hp;have R:=N.Zp p hp;have Q8:∀(b:Yg) (a:Qo),a=⟨b,n.Zr.l⟩->(X,b,-1,false)∈v.H->b∈v.K->YF n.Zr.p n.Zr.l b=0->∃w,St v w 1/\(∀x∈a.l,SX w (U C) 0 x/\Dn w X x.b x.Zs)/\Pm w X a.p/\K0 w a.p/\¬Zw a.p n.Zr.p:=fun b a e h1 h2 h3=>by
  have s:=St.put v (X,b,-1,true);rw[e];exact⟨_,s,fun x hx=>⟨(A x hx).1.up s.le,s.le.dn (A x hx).2⟩,.inl ⟨s.le.h _ h1,aU ..⟩,.inr (s.le.k _ h2),UX h3⟩
 cases p with
 | Q8 a to b vs=>
  obtain⟨w,s,h⟩:=Q8 b a R.1 P.1 P.2 R.2.2;exact⟨w,s,h.1,h.2.1,h.2.2.1,h.2.2.2,fun _ _ _ e=>by cases e⟩
 | Zr a vs cur=>
  obtain⟨b,e,_,h3,_⟩:=R;have P1:=P.1;have P2:=P.2;rw[e]at P1 P2;obtain⟨w,s,h⟩:=Q8 b a e P1 P2 h3;exact⟨w,s,h.1,h.2.1,h.2.2.1,h.2.2.2,fun _ _ _ e=>by cases e⟩
 | Wo a to x=>
  obtain⟨P1,P2,P3,i,P4,P5,P6⟩:=P;obtain⟨e,hz,_⟩:=R;have s:=St.put v (X,x.b,x.Zs,true);have d:Dn (v.put (X,x.b,x.Zs,true)) X x.b x.Zs:=⟨s.le.h _ P1,aU ..⟩
  have d':Uv (v.put (X,x.b,x.Zs,true)) x.Zs.toNat:=⟨X,x.b,by rw[show ((x.Zs.toNat:Nat):Int)=x.Zs by omega];exact d⟩
  have sx:SX (v.put (X,x.b,x.Zs,true)) (U C) 0 x:=⟨P2,P3,i,P4,P5.up s.le.ch (am _) (am _),(P6.up s.le.u (am _) (am _)).next d'⟩
  refine⟨_,s,fun y hy=>?_,.inr ?_,.inr ?_,?_,fun a' to' x' e'=>?_⟩
  .have hy:y∈a.l:=hy;rw[e]at hy;unfold Jh at hy;rcases an.1 hy with hy|hy
   .have:=A y (aw.1 hy).1;exact⟨this.1.up s.le,s.le.dn this.2⟩
   .rcases aX.1 hy with rfl|hy
    .exact⟨sx,d⟩
    .have:=A y (aw.1 hy).1;exact⟨this.1.up s.le,s.le.dn this.2⟩
  .show a.p∈v.B;rw[e];exact aI.2 ⟨i,P4⟩
  .show a.p∈v.K;rw[e];exact bk _ (aI.2 ⟨i,P4⟩)
  .show ¬Zw a.p n.Zr.p;rw[e];exact UY hz
  .cases e';exact d
structure SV(C:List Cm)(v:Vw)(X:Nat)(n:Nd)(o:Out)(w:Vw):Prop where
 go:Go1 v w X 1
 nd:NV C w X o.n
 l:∀m∈o.ls,LV (U C) w m
 j:FJ w o.ls
 f:∀Y,Y<5->∀p,FI w p (o.ls.filter (sc Y))
 b:FI w (YD o.n).p (TK o.n++o.n.Zf)
 p:¬Zw (YD o.n).p (YD n).p
 ib:∀l∈o.n.Zf,l∈n.Zf
 dt:(U o.n.data)<=(U n.data)+38
 a:∀m∈o.ls,m.ZH=0->m.b.n=(X:Int)/\¬Zw (YD o.n).p m.b
 sp:(YD o.n).p=(YD n).p\/∃p,n.Zp=ak p/\(YD o.n).p=(XW p).p
 sq:∀p,o.n.Zp=ak p->(∃p',n.Zp=ak p'/\(XW p).p=(XW p').p)\/(∃l∈n.Zf,l.ZH=0/\(XW p).p=l.b)\/(XW p).p∈v.B\/(XW p).p.n=(X:Int)
def NV.Yk(V:NV C v X n):Blank n.Zh:=fun r hr e=>((V.Zh r hr).new e).2
def ZaC(N:NR S g M X n)(hu:n.up=true)(NI:Qq C' X n){p:Ny}(hp:n.Zp=ak p)(V:NV C v X n)(bk:∀b∈v.B,b∈v.K)(F:FI v n.Zr.p (TK n++n.Zf)):∃w,SV C v X n (Yp (ZJ n) p) w:=by
 obtain⟨w,s,h1,h2,h3,h4,h5⟩:=dy N hu hp V bk;have V2:=V.st s;have A:=V.acc;rw[Yf hu]at A;have R:=N.Zp p hp;have eA:YD (Yp (ZJ n) p).n=XW p:=by
  rw[Yf (by cases p<;>exact hu)]
  cases p<;>rfl
 have eO:=Yf hu;have ep:(Yp (ZJ n) p).n.Zp=al:=by cases p<;>rfl
 have ei:(Yp (ZJ n) p).n.Zf=n.Zf:=VH _ _;have nd:∀m:Nd,YD m=XW p->m.Ye=n.Ye->m.Zp=al->m.Zi=n.Zi->(∀r,m.Zh=ak r->RV C w X n.Zi r)->NV C w X m:=fun m e1 e2 e3 e4 e5=>
  ⟨by rw[e1];exact h1,by rw[e1];exact .inr h2,by rw[e1,e2];exact⟨h3,V2.k0.2⟩,fun b hb e=>by rw[e1];exact Xs (by rw[<-eO];exact V2.Zr b hb e) h4,(fun q hq=>by rw[e3]at hq;cases hq),by rw[e4];exact V2.Zi,fun r hr=>by rw[e4];exact e5 r hr⟩
 have QD:FI w (XW p).p n.Zf:=by
  have F:=F.up s.le h4
  cases p with
  | Q8 a to b vs=>unfold TK at F;rw[hp]at F;exact F
  | Zr a vs cur=>unfold TK at F;rw[hp]at F;exact F
  | Wo a to x=>
   unfold TK at F;rw[hp]at F;refine FI.tail F fun _=>.inl ⟨X,x.b,?_⟩;have:=(V.Zp _ hp).2.1;show Dn w X x.b ((x.Zs.toNat:Nat):Int);rw[show ((x.Zs.toNat:Nat):Int)=x.Zs by omega];exact h5 _ _ _ rfl
 have one:∀l:Yn,LV (U C) w l->l.ZH≠2->(∀m∈[l],LV (U C) w m)/\FJ w [l]/\∀Y,Y<5->∀p,FI w p ([l].filter (sc Y)):=fun l h q=>
  ⟨fun m hm=>by rw[aa.1 hm];exact h,FJ.plain fun m hm=>by rw[aa.1 hm];exact q,fun _ _ _=>FI.plain fun m hm=>by rw[aa.1 (aw.1 hm).1];exact q⟩
 have fin:NV C w X (Yp (ZJ n) p).n->((∀m∈(Yp (ZJ n) p).ls,LV (U C) w m)/\FJ w (Yp (ZJ n) p).ls/\∀Y,Y<5->∀p',FI w p' ((Yp (ZJ n) p).ls.filter (sc Y)))->SV C v X n (Yp (ZJ n) p) w:=fun a b=>
  ⟨s.go,a,b.1,b.2.1,b.2.2,by rw[eA,JI ep,ei];exact QD,by rw[eA,eO];exact h4,fun l hl=>by rw[ei]at hl;exact hl,by
   have e:(Yp (ZJ n) p).n.data=(ZJ n).data:=by cases p<;>rfl
   rw[e];show (if YT n.data n.Y5 then n.data else []).length<=_;split
   .exact a5 _ _
   .exact bw _,(fun m hm q=>by
   cases p with
   | Q8 a to b vs=>rw[aa.1 hm]at q;cases q
   | Wo a to x=>rw[aa.1 hm]at q;cases q
   | Zr a vs cur=>cases hm),.inr ⟨p,hp,by rw[eA]⟩,fun q hq=>by rw[ep]at hq;cases hq⟩
 have me:((n.me:Nat):Int).toNat=X:=by rw[a0,NI.me]
 refine⟨w,fin ?_ ?_⟩
 .cases p with
  | Q8 a to b vs=>exact nd _ eA rfl rfl rfl V2.Zh
  | Wo a to x=>exact nd _ eA rfl rfl rfl V2.Zh
  | Zr a vs cur=>
   refine nd _ eA rfl rfl rfl fun r hr=>?_;have hr:(if cur=true then n.Zh.map (fun r=>{ r with ZL:=ins r.ZL n.me vs }) else n.Zh)=ak r:=hr;split at hr
   .rename_i hc
    cases e:n.Zh with
    | none=>rw[e]at hr;cases hr
    | some r0=>
     rw[e]at hr;obtain rfl:=Option.some.inj hr;have R0:=V2.Zh r0 e;refine⟨R0.ZX,R0.mq,fun j us q=>?_,R0.YY,R0.new,R0.Ga⟩;have q:Yl (ins r0.ZL (n.me:Int) vs) j=ak us:=q;rw[Xl]at q;split at q
     .rename_i ej;obtain⟨b,ea,ev,_,ec⟩:=R;obtain⟨r1,BG,eb⟩:=ec hc;rw[e]at BG;obtain rfl:=Option.some.inj BG;rw[<-ej,<-Option.some.inj q,me,ev];refine⟨?_,fun x hx=>(A x hx).1.up s.le⟩;show Pm w X r0.b;rw[eb,show b=(XW (.Zr a vs cur)).p by show b=a.p;rw[ea]];exact h2
     .exact R0.ZL j us q
   .exact V2.Zh r hr
 .cases p with
  | Q8 a to b vs=>
   refine one _ ⟨.inr (s.le.k _ (V.Zp _ hp).2),(fun h=>by cases h),fun _=>⟨?_,fun x hx=>?_⟩,(fun h=>by cases h),(fun h=>by cases h),fun h=>by cases h⟩ (by show (1:Int)≠2;decide)
   .show Pm w ((n.me:Nat):Int).toNat b;rw[me,show b=(XW (.Q8 a to b vs)).p by show b=a.p;rw[R.1]];exact h2
   .have hx:x∈vs:=hx;rw[R.2.1]at hx;exact (A x hx).1.up s.le
  | Wo a to x=>
   refine one _ ⟨.inl rfl,(fun h=>by cases h),(fun h=>by cases h),(fun h=>by cases h),fun _=>?_,fun h=>by cases h⟩ (by show (3:Int)≠2;decide);show Dn w ((n.me:Nat):Int).toNat x.b x.Zs;rw[me];exact h5 _ _ _ rfl
  | Zr a vs cur=>exact⟨fun m hm=>(by cases hm),FJ.nil,fun _ _ _=>FI.nil⟩
def ZhN(hX:X<5)(G:GI S g M)(hS:∀x,S x->x.err=0)(hSC:∀x,S x->x∈C)(N:NR S g M X n)(NI:Qq C' X n)(hr:(U n.data)<=90000)(V:NV C v X n)(bk:∀b∈v.B,b∈v.K)(hk:∀l∈n.Zf,(Qb C' l/\LR S g M l)/\LV (U C) v l)(F:FI v (YD n).p (TK n++n.Zf)):∃w,SV C v X n (step n) w:=by
 unfold step;split
 .rename_i hu;rw[Yf hu]at F;split
  .rename_i p hp;exact ZaC N hu NI hp V bk F
  .rename_i hp;rw[JI hp]at F;obtain⟨w,s,V1,L1,F1,o1,B1⟩:=Zd2 hX G hS n.Zf n v N hu hp NI hr V hk F;obtain⟨H,I,_⟩:=mh hX G n.Zf n N hu hp NI fun l hl=>(hk l hl).1;have k1:=WX n.Zf n;split
   .rename_i q;have q0:¬(Zy n n.Zf).n.Zp=al:=fun e=>by rw[e]at q;cases q
    rw[if_neg q0]at s;refine⟨w,s.go,V1,L1,FJ.plain fun m hm=>(k1 m hm).2,fun _ _ _=>FI.plain fun m hm=>(k1 m (aw.1 hm).1).2,by rw[Yf H.up,o1];exact F1,by rw[Yf H.up,o1,Yf hu];exact YR _,B1,(Ms _ _).1,fun m hm q=>absurd q (k1 m hm).1,.inl (by rw[Yf H.up,o1,Yf hu]),fun p hq=>?_⟩;obtain⟨_,j,l,e,h⟩:=FK n.Zf n hp p hq;have hm:l∈n.Zf:=by rw[e];simp
    rcases h with⟨a,_,_,b⟩|⟨a,_,_,b⟩
    .exact .inr (.inl ⟨l,hm,a,by rw[b]⟩)
    .obtain⟨_,_,i,h,_⟩:=(hk l hm).2.ask a;exact .inr (.inr (.inl (by rw[b];exact aI.2 ⟨i,h⟩)))
   .rename_i q;have q0:(Zy n n.Zf).n.Zp=al:=by
     cases e:(Zy n n.Zf).n.Zp with
     | none=>rfl
     | some p=>rw[e]at q;exact absurd rfl q
    rw[if_pos q0]at s;obtain⟨w2,D⟩:=ZhM hX G H.n H.up q0 I (fun x hx=>hSC x (H.n.cF x hx)) V1;have eu:YD (YH (Zy n n.Zf).n).n=n.Zr:=by
     rw[Yf,D.ow,o1];exact (zS hX G H.n H.up q0 I).elim fun _ h=>h.elim fun _ h=>h.h.up
    have G1:Go1 v w2 X 1:=by have:=s.go1 D.go;exact⟨this.le,by have:=this.c;omega,this.k,this.b⟩
    refine⟨w2,G1,D.nd,fun m hm=>?_,?_,fun Y hY p=>?_,?_,by rw[eu,Yf hu];exact YR _,fun l hl=>?_,?_,fun m hm q=>?_,.inl (by rw[eu,Yf hu]),fun p hq=>.inr (.inr (.inr ?_))⟩
    .rcases an.1 hm with hm|hm
     .exact (L1 m hm).up D.go.le
     .exact D.l m hm
    .exact (FJ.plain fun m hm=>(k1 m hm).2).app D.j
    .show FI w2 p (((Zy n n.Zf).ls++(YH (Zy n n.Zf).n).ls).filter (sc Y));rw[bo];exact (FI.plain fun m hm=>(k1 m (aw.1 hm).1).2).app (D.f Y hY p)
    .rw[eu,D.p,D.ib,<-o1];rw[JI q0]at F1;rw[o1];exact F1.up D.go.le (YR _)
    .rw[D.ib]at hl;exact B1 l hl
    .have:=(Ms n.Zf n).2 q0;show (YH (Zy n n.Zf).n).n.data.length<=_;rcases (Xh q0 V1.Yk).1.Zp with⟨_,e⟩|⟨_,_,_,_,e,_⟩
     .rw[e];omega
     .rw[e,au,RP];omega
    .rcases an.1 hm with hm|hm
     .exact absurd q (k1 m hm).1
     .obtain⟨r,hr,_,h2,h3,_⟩:=(Xh q0 V1.Yk).2 m hm (.inl q);rw[h3 q];exact⟨(V1.Zh r hr).ZX,by rw[eu,<-o1];exact h2⟩
    .rcases (Xh q0 V1.Yk).1.Zp with⟨e,_⟩|⟨r,hr,c1,_,_,e⟩
     .rw[show (YH (Zy n n.Zf).n).n.Zp=al from e]at hq;cases hq
     .rw[show (YH (Zy n n.Zf).n).n.Zp=_ from e]at hq;obtain rfl:=Option.some.inj hq;rw[if_pos (mw G H.n H.up I (H.n.Zh r hr).may (Tj c1))];exact (V1.Zh r hr).ZX
 .exact⟨v,.refl v 1,V,(fun m hm=>by cases hm),FJ.nil,fun _ _ _=>FI.nil,F,YR _,fun l hl=>hl,a5 _ _,(fun m hm=>by cases hm),.inl rfl,fun p hp=>.inl ⟨p,hp,rfl⟩⟩
end
end Go.Proofs.YtnhfdnlcpdbjlaaGreatDoor

/- Part W6. -/
import Derived.Test.YthlfaofofaphfaaGreatDoorW4
open Go.Value renaming slice→J,pointer→U
open Go.Obj renaming cells→S
open List renaming length→G,size_toArray→am,length_take→au
open Option renaming bind_some→O,map_some→al,some→D,none→M
open Array renaming getElem?_setIfInBounds→L,getElem?_push→W,getD_eq_getD_getElem?→Y
open Go renaming Value→A,TypeId→Q,Operand→Z,Program→aa
namespace Go.V
set_option linter.unusedVariables false
set_option linter.unusedSimpArgs false
variable{t:Q}{x:Z}
section
variable {P:aa} {T:World} {K:A->Hp->Prop} {F:Env} {h:Hp} {ty:Q}
def AJ(B:Nat)(h0:Hp)(s:Option Bool)(n:Option Nat)(p:A)(C:A->Prop):Prop:=
 match p with
 | U (D a)=>if a.block<B then (match s,n with
  | some false,_=>qR (hc h0 a) C
  | some true,D n=>qR ((rd h0 a n).map fun l=>.agg l.toArray) C
  | _,_=>False) else False
 | _=>False
def SF(P:aa)(T:World)(B:Nat)(h0:Hp)(op:Op)(ty:Q)(C:A->Prop)(F:Env):Prop:=
 match op with
 | .load t x=>AJ B h0 (ta P t) (tn P t) (ev F x) C
 | op=>∃v,(∀h',TQ P T op ty (OD v h') F h')/\ap C v
def fZ(P:aa)(T:World)(ops:List Oper)(B:Nat)(h0:Hp)(N:Env->Hp->Prop):List (Nat × Bool × Oper)->Env->Hp->Prop
 | [],F,h=>N F h
 | (_,true,⟨d,op,ty,_,_,M⟩) :: l,F,h=>SF P T B h0 op ty (fun v=>fZ P T ops B h0 N l (Yz F d v) h) F
 | (_,false,⟨d,op,ty,_,_,M⟩) :: l,F,h=>TQ P T op ty (fun v h'=>Zk B h0 h'/\fZ P T ops B h0 N l (Yz F d v) h') F h
 | (_,true,⟨d,op,ty,_,_,D (j,b)⟩) :: l,F,h=>JF (Wo ops F j) b (SF P T B h0 op ty (fun v=>fZ P T ops B h0 N l (Yz F d v) h) F) (fZ P T ops B h0 N l (Yz F d undef) h)
 | (_,false,⟨d,op,ty,_,_,D (j,b)⟩) :: l,F,h=>JF (Wo ops F j) b (TQ P T op ty (fun v h'=>Zk B h0 h'/\fZ P T ops B h0 N l (Yz F d v) h') F h) (fZ P T ops B h0 N l (Yz F d undef) h)
theorem QU{B:Nat}{h0 h':Hp}(b:Zk B h0 h'){a:Addr}(ha:a.block<B)(n:Nat):rd h' a n=rd h0 a n:=by unfold rd;rw[b.block _ ha]
theorem I1{c p:Prop}[Decidable c]:(if c then p else False)=(c/\p):=by
 by_cases hc:c<;>simp[hc]
theorem VY{B:Nat}{h0:Hp}{op:Op}{C:A->Prop}(H:SF P T B h0 op ty C F):∃v,(∀h',Zk B h0 h'->TQ P T op ty (fun v' LW=>v'=v/\LW=h') F h')/\C v:=by
 unfold SF at H;split at H
 .rename_i t x;unfold AJ at H;split at H
  .rename_i a ha;rw[I1]at H;obtain⟨hb,H⟩:=H;split at H
   .rename_i hs;unfold qR at H;split at H
    .rename_i v hv;refine⟨v,fun h' Cv=>?_,H⟩;show Mw (ta P t) (tn P t) (ev F x) _ h';rw[hs,ha];rw[EX,Cv.hc hb,hv];exact⟨rfl,rfl⟩
    .exact H.elim
   .rename_i n hs hn;unfold qR at H;split at H
    .rename_i v hv;refine⟨v,fun h' Cv=>?_,H⟩;show Mw (ta P t) (tn P t) (ev F x) _ h';rw[hs,hn,ha];rw[H9,QU Cv hb]
     cases hr:rd h0 a n with
     | none=>rw[hr]at hv;cases hv
     | some l=>
      rw[hr]at hv;simp only[al,Option.some.injEq]at hv;subst hv;exact⟨rfl,rfl⟩
    .exact H.elim
   .exact H.elim
  .exact H.elim
 .obtain⟨v,hv,hc⟩:=H;exact⟨v,fun h' _=>hv h',hc⟩
theorem Qq{ops:List Oper}{B:Nat}{h0:Hp}{N:Env->Hp->Prop}:∀(l:List (Nat × Bool × Oper)) (F:Env) (h:Hp),fZ P T ops B h0 N l F h->Mt P T ops.toArray (fun h'=>Zk B h0 h') N l F h
 | [],F,h,H=>H
 | (i,true,⟨d,op,ty,pos,WY,M⟩) :: l,F,h,H=>by
  show (if YI ops.toArray _ F=true then _ else _);rw[if_pos (by rfl)];obtain⟨v,hv,H⟩:=VY H;exact⟨v,fun h' hs=>QF (hv h' hs),Qq l _ _ H⟩
 | (i,false,⟨d,op,ty,pos,WY,M⟩) :: l,F,h,H=>by
  show (if YI ops.toArray _ F=true then _ else _);rw[if_pos (by rfl)];exact Us (fun v h' q=>⟨q.1,Qq l _ _ q.2⟩) H
 | (i,true,⟨d,op,ty,pos,WY,D (j,b)⟩) :: l,F,h,H=>by
  show (if YI ops.toArray _ F=true then _ else _);rcases XI ops F d op pos WY j b H with⟨hw,H⟩|⟨hw,H⟩
  .rw[if_pos hw];obtain⟨v,hv,H⟩:=VY H;exact⟨v,fun h' hs=>QF (hv h' hs),Qq l _ _ H⟩
  .rw[hw,if_neg Hg];exact Qq l _ _ H
 | (i,false,⟨d,op,ty,pos,WY,D (j,b)⟩) :: l,F,h,H=>by
  show (if YI ops.toArray _ F=true then _ else _);rcases XI ops F d op pos WY j b H with⟨hw,H⟩|⟨hw,H⟩
  .rw[if_pos hw];exact Us (fun v h' q=>⟨q.1,Qq l _ _ q.2⟩) H
  .rw[hw,if_neg Hg];exact Qq l _ _ H
def VL(ops:List Oper):List (Nat × Bool)->List (Nat × Bool × Oper)
 | []=>[]
 | (i,q) :: l=>(match nth ops i with|some o=>(i,q,o)|none=>(i,q,default)) :: VL ops l
theorem VS.b{n:Nat}{N:Env->Hp->Prop}{X:Nat->Env->Hp->Prop}{R:Env->Hp->Prop}{id:Nat}{ops:List Oper}(B:Nat)(l:List (Nat × Bool))(hm:P.follows .mixedOrders=true)(Uk:SI n ops.toArray l=true)(H:fZ P T ops B h N (VL ops l) F h):VS P n T (.region id ops.toArray true) N X R F h:=by
 refine VS.held (fun h'=>Zk B h h') l hm Uk (Zk.refl _ _) ?_;have e:Vq ops.toArray l=VL ops l:=by
  unfold Vq;have:∀l:List (Nat × Bool),(l.map fun (i,q)=>(i,q,ops.toArray.getD i default))=VL ops l:=by
   intro l
   induction l with
   | nil=>rfl
   | cons x l ih=>
    obtain⟨i,q⟩:=x;simp only[List.map_cons,VL,ih]
    congr 1
    rw[YR]
    cases hx:ops[i]? with
    | none=>simp[Y,hx]
    | some o=>simp[Y,hx]
  exact this l
 rw[e];exact Qq _ _ _ H
def hK(P:aa)(T:World)(ops:List Oper)(B:Nat)(h0:Hp)(N:Env->Hp->Prop)(l:List (Nat × Bool × Oper))(F:Env)(d:Option Tmp)(h:Hp):A->Prop:=fun v=>fZ P T ops B h0 N l (Yz F d v) h
def hKs(P:aa)(T:World)(ops:List Oper)(B:Nat)(h0:Hp)(N:Env->Hp->Prop)(l:List (Nat × Bool × Oper))(F:Env)(d:Option Tmp):A->Hp->Prop:=fun v h'=>Zk B h0 h'/\fZ P T ops B h0 N l (Yz F d v) h'
section
variable {ops:List Oper} {l:List (Nat × Bool × Oper)} {B:Nat} {h0:Hp} {N:Env->Hp->Prop} {d:Option Tmp} {op:Op} {pos:String} {WY:Array Edge} {i j:Nat} {b c:Bool} {C:A->Prop}
@[go_sem] theorem ZmZ:fZ P T ops B h0 N [] F h=N F h:=rfl
@[go_sem] theorem Zwh:fZ P T ops B h0 N ((i,true,⟨d,op,ty,pos,WY,M⟩) :: l) F h=SF P T B h0 op ty (hK P T ops B h0 N l F d h) F:=rfl
@[go_sem] theorem Zwi:fZ P T ops B h0 N ((i,false,⟨d,op,ty,pos,WY,M⟩) :: l) F h=TQ P T op ty (hKs P T ops B h0 N l F d) F h:=rfl
@[go_sem] theorem Zp8{v:A}:hK P T ops B h0 N l F d h v=fZ P T ops B h0 N l (Yz F d v) h:=rfl
@[go_sem] theorem Zm0{v:A}:hKs P T ops B h0 N l F d v h=(Zk B h0 h/\fZ P T ops B h0 N l (Yz F d v) h):=rfl
@[go_sem] theorem Zeo:VL ops []=[]:=rfl
def inO(ops:List Oper)(i:Nat)(q:Bool)(o:Option Oper)(l:List (Nat × Bool)):List (Nat × Bool × Oper):=(match o with|some o=>(i,q,o)|none=>(i,q,default)) :: VL ops l
@[go_sem] theorem Zb0{q:Bool}{l:List (Nat × Bool)}:VL ops ((i,q) :: l)=inO ops i q (nth ops i) l:=rfl
@[go_sem] theorem Zjg{q:Bool}{o:Oper}{l:List (Nat × Bool)}:inO ops i q (D o) l=(i,q,o) :: VL ops l:=rfl
@[go_sem] theorem hEq{v:A}:(∃u,(∀h':Hp,OD u h' v h')/\ap C u)=C v:=by
 apply propext;constructor
 .rintro⟨u,hu,H⟩;obtain⟨e,_⟩:=hu #[];subst e;exact H
 .intro H;exact⟨v,fun _=>⟨rfl,rfl⟩,H⟩
@[go_sem] theorem Zjh:SF P T B h0 (.load t x) ty C F=AJ B h0 (ta P t) (tn P t) (ev F x) C:=rfl
@[go_sem] theorem Zic{n:Option Nat}{a:Addr}:AJ B h0 (D false) n (U (D a)) C=if a.block<B then qR (hc h0 a) C else False:=rfl
@[go_sem] theorem ZfD{n:Nat}{a:Addr}:AJ B h0 (D true) (D n) (U (D a)) C=if a.block<B then qR ((rd h0 a n).map fun l=>.agg l.toArray) C else False:=rfl
@[go_sem] theorem Zji:SF P T B h0 (.move x) ty C F=C (ev F x):=hEq
@[go_sem] theorem ZfE:SF P T B h0 (.assign x) ty C F=C (ev F x):=hEq
@[go_sem] theorem Zid{i:Nat}:SF P T B h0 (.fieldAddr t x i) ty C F = ∃v,(∀h':Hp,NC (tf P t i) (ev F x) (OD v h') h')/\ap C v:=rfl
@[go_sem] theorem Zp9{i:Z}:SF P T B h0 (.indexAddr t x i) ty C F = ∃v,(∀h':Hp,vIx (Xr P t) (QR P t) (tn P) (ev F x) (ev F i) (OD v h') h')/\ap C v:=rfl
@[go_sem] theorem Zjj{y z:Z}:SF P T B h0 (.pick x y z) ty C F = ∃v,(∀h':Hp,EU (ev F x) (ev F y) (ev F z) (OD v h') h')/\ap C v:=rfl
@[go_sem] theorem Zm1:SF P T B h0 (.nilCheck x) ty C F = ∃v,(∀h':Hp,eK (ev F x) (OD v h') h')/\ap C v:=rfl
@[go_sem] theorem Zm2{op:BinOp}{t':Q}{y:Z}:SF P T B h0 (.binOp op t x y t') ty C F = ∃v,(∀h':Hp,XU P op t x y (ev F x) (ev F y) (OD v h') h')/\ap C v:=rfl
@[go_sem] theorem Zqa{op:UnOp}:SF P T B h0 (.unOp op t x) ty C F = ∃v,(∀h':Hp,vUn P op (ev F x) (OD v h') h')/\ap C v:=rfl
@[go_sem] theorem Zjk{s:Q}:SF P T B h0 (.convert s t x) ty C F = ∃v,(∀h':Hp,Mx P s t (ev F x) (OD v h') h')/\ap C v:=rfl
@[go_sem] theorem Zep{i:Nat}:SF P T B h0 (.extract x i) ty C F = ∃v,(∀h':Hp,WV (ev F x) i (OD v h') h')/\ap C v:=rfl
@[go_sem] theorem Zm3{lo hi mx:Option Z}:SF P T B h0 (.slice t x lo hi mx) ty C F = ∃v,(∀h':Hp,Eg (Xr P t) (QR P t) (WU P t) (tn P) (ev F x) (kD F lo) (kD F hi) (kD F mx) (OD v h') h')/\ap C v:=rfl
@[go_sem] theorem Zie{parts:Array (Nat × Z)}:SF P T B h0 (.build t parts) ty C F = ∃v,(∀h':Hp,NE (tz P t) (Ng P t) (Xr P t) (tn P) (eQ F parts.toList) (OD v h') h')/\ap C v:=rfl
@[go_sem] theorem Zqb{b:Builtin}{args:Array Z}{ts:Array Q}:SF P T B h0 (.call ⟨.builtin b,args,ts⟩) ty C F =
  ∃v,(∀h':Hp,Pm P T b ts ty (args.map fun|.const _=>true|_=>false) (nr F args.toList) (OD v h') h')/\ap C v:=rfl
end
@[go_sem] theorem Zqc{l:List A}{b b' o:Nat}:hc (h.setIfInBounds b (S l.toArray t)) ⟨b',o,M⟩=if b'=b then (if b<h.size then nth l o else M) else hc h ⟨b',o,M⟩:=by
 unfold hc;simp only[L];by_cases hb:b=b'
 .subst hb;by_cases hs:b<h.size
  .simp[hs,YR]
  .simp[hs]
 .have Qa:¬b'=b:=fun e=>hb e.symm;simp[hb,Qa]
@[go_sem] theorem Zqd{l:List A}{b b' o n:Nat}:rd (h.setIfInBounds b (S l.toArray t)) ⟨b',o,M⟩ n=if b'=b then (if b<h.size then (if o+n<=(G l) then D ((l.drop o).take n) else M) else M) else rd h ⟨b',o,M⟩ n:=by
 unfold rd;simp only[L];by_cases hb:b=b'
 .subst hb;by_cases hs:b<h.size
  .simp[hs]
  .simp[hs]
 .have Qa:¬b'=b:=fun e=>hb e.symm;simp[hb,Qa]
attribute [go_sem] Array.size_setIfInBounds
theorem Ye{l:List A}{b:Nat}(hr:h[b]? = D (S l.toArray t))(o:Nat)(vs:List A):wr h ⟨b,o,M⟩ vs=if o+(G vs)<=(G l)/\vs.all YC=true then D (h.setIfInBounds b (S (Y9 l o vs).toArray t)) else M:=by
 unfold wr;simp only[hr,am,Nat.le_refl,true_and]
theorem Xe{l:List A}{b:Nat}(hr:h[b]? = D (S l.toArray t))(o:Nat)(v:A):QP h ⟨b,o,M⟩ v=if o<(G l)/\YC v=true then D (h.setIfInBounds b (S (l.set o v).toArray t)) else M:=by
 unfold QP;simp only[hr,am,Nat.le_refl,true_and,List.setIfInBounds_toArray]
theorem Zk.get{B:Nat}{h0 h1:Hp}(b:Zk B h0 h1){k:Nat}{o:Obj}(hk:k<B)(h:h0[k]? = D o):h1[k]? = D o:=(b.block k hk).trans h
theorem Zc{o:Obj}:(h.push o)[h.size]? = D o:=Hg
theorem ZJ{o:Obj}{b:Nat}(hb:b<h.size):(h.push o)[b]? = h[b]?:=by rw[W,if_neg nc]
end
section
variable {P:aa} {h:Hp}
def rvF(s:Option Bool)(n:Option Nat)(a:Addr)(h:Hp):Option A:=
 match s,n with
 | some false,_=>hc h a
 | some true,D n=>(rd h a n).map fun l=>.agg l.toArray
 | _,_=>M
@[go_sem] theorem Zjl{n:Nat}{a:Addr}:rvF (D true) (D n) a h=(rd h a n).map fun l=>.agg l.toArray:=rfl
theorem AK{b:Bool}(hb:ta P t=D b):hr P (isAgg t) h=D b:=by
 unfold ta at hb
 cases hi:P.underlying t with
 | none=>rw[hi]at hb;cases hb
 | some d=>
  rw[hi]at hb;simp only[al,Option.some.injEq]at hb;subst hb;unfold isAgg underlying;rw[QN,QN];show ((hr P (match P.underlying t with|some d=>pure d|none=>stuck "no such type") h).bind fun a=>hr P (match a with|.struct _=>pure true|.array _ _=>pure true|_=>pure false) h)=_
  rw[hi]
  cases d<;>rfl
theorem oJ{n:Nat}(hn:tn P t=D n):hr P (sizeOf t) h=D n:=by
 unfold tn at hn
 cases hi:P.info? t with
 | none=>rw[hi]at hn;cases hn
 | some i=>
  rw[hi]at hn;simp only[al,Option.some.injEq]at hn;subst hn;unfold sizeOf typeInfo;rw[QN,QN];show ((hr P (match P.info? t with|some d=>pure d|none=>stuck "no such type") h).bind fun a=>hr P (pure a.size) h)=_
  rw[hi];rfl
theorem Cw(a:Addr)(c:List A):∀(n i:Nat) (acc:Array A),(∀j,j<n->hc h (a.add (i+j))=D (c.getD j undef))->n=(G c)->hr P (loadCellsFrom a i n acc) h=D (acc++c.toArray):=by
 induction c with
 | nil=>intro n i acc _ hn;subst hn;simp[loadCellsFrom,pure,hr]
 | cons v c ih=>
  intro n i acc hj hn;subst hn;show hr P (load (a.add i) >>= fun v=>loadCellsFrom a (i+1) (G c) (acc.push v)) h=_;rw[QN];have e:hr P (load (a.add i)) h=D v:=by
   have:=hj 0 Hg;rw[Nat.add_zero]at this;show (hc h (a.add i)).bind _=_;rw[this];rfl
  rw[e,O,ih _ (i+1) _ (fun j fa=>?_) rfl]
  .simp
  .have:=hj (j+1) KQ;have e:i+(j+1)=i+1+j:=nc;rw[e]at this
   simpa using this
@[go_sem] theorem ga{a:Addr}(hs:(rvF (ta P t) (tn P t) a h).isSome=true):Mu P t (U (D a)) h=rvF (ta P t) (tn P t) a h:=by
 unfold Mu;show hr P (loadVar t a) h=_;unfold loadVar;rw[QN];unfold rvF at hs ⊢;split at hs
 .rename_i ht;rw[AK ht,O,if_neg Hg];show (hc h a).bind (fun v=>D v)=hc h a
  cases hc h a<;>rfl
 .rename_i n ht hn;rw[AK ht,O,if_pos rfl,QN,oJ hn,O,QN]
  cases hl:rd h a n with
  | none=>rw[hl]at hs;cases hs
  | some l=>
   unfold rd at hl;split at hl
   .rename_i c e fr hb;split at hl
    .rename_i MA;obtain⟨h1,h2⟩:=MA;simp only[Option.some.injEq]at hl;subst hl;have hlen:((c.toList.drop a.off).take n).length=n:=KQ;have:=Cw (P:=P) (h:=h) a ((c.toList.drop a.off).take n) n 0 #[] (fun j hj=>by
      rw[OB a _ h1];unfold hc;rw[hb];simp only[Option.isSome_none,Bool.false_eq_true,if_false];rw[List.getD_eq_getElem?_getD,List.getElem?_take,if_pos hj,List.getElem?_drop];have e:a.off+(0+j)=a.off+j:=nc;rw[e];simp;rw[Array.getElem?_eq_getElem nc];rfl) hlen.symm
     unfold loadCells;rw[this,O];show D (Value.agg (#[]++_))=_;simp
    .cases hl
   .cases hl
 .cases hs
end
theorem UE.Ya{B:Nat}{E:Q}{n:Nat}{h:Hp}{v:A}{m:Nat}{cs:List A}(s:UE B E n h v m cs){b:Nat}(hb:b<B)(o:Obj):UE B E n (h.setIfInBounds b o) v m cs:=by
 rcases s with s|⟨b',cap,ZG,hB,rfl,hg,r⟩
 .exact .inl s
 .exact .inr ⟨b',cap,ZG,hB,rfl,by rw[L,if_neg nc];exact hg,r⟩
theorem Yx.Ya{B:Nat}{E:Q}{h:Hp}{v:A}{l:List Nat}(s:Yx B E h v l){b:Nat}(hb:b<B)(o:Obj):Yx B E (h.setIfInBounds b o) v l:=⟨s.Zq.Ya hb o,s.byte⟩
theorem Zk.Zt{B:Nat}{h h':Hp}(a:Zk B h h'){b:Nat}(hb:B<=b)(o:Obj):Zk B h (h'.setIfInBounds b o):=a.trans (Zk.set hb o)
@[go_sem] theorem ZfG{K:A->Hp->Prop}{h:Hp}{a:Option Addr}{n cap b:Nat}:Nh a n cap b (D 0) K h=K (J a b cap) h:=by
 have e:(if cap=0 then a else a.map (·.add (0*n)))=a:=by
  split
  .rfl
  .rw[Nat.zero_mul];cases a<;>simp[Addr.add]
 simp only[Nh,e,Nat.sub_zero]
theorem Sl.NL{h:Hp}{p:Option Addr}{k c:Nat}{cs:List A}(s:Sl 1 h (J p k c) k cs){m:Nat}(hm:m<=k)(c':Nat):Sl 1 h (J p m c') m (cs.take m):=by
 obtain⟨p',cap,hv,hl,hc⟩:=s;simp only[Value.slice.injEq]at hv;obtain⟨rfl,_,rfl⟩:=hv;refine⟨p,c',rfl,aad,fun Y4=>?_⟩;obtain⟨b,o,rfl,XE⟩:=hc (by intro e;subst e;simp at Y4);refine⟨b,o,rfl,fun i hi=>?_⟩;have kK:i<(G cs):=by rw[au]at hi;omega
 rw[XE i kK];simp
theorem Bs.NL{h:Hp}{p:Option Addr}{c:Nat}{l:List Nat}(s:Bs h (J p (G l) c) l){m:Nat}(hm:m<=(G l))(c':Nat):Bs h (J p m c') (l.take m):=by
 have:=s.sl.NL hm c';rw[<-List.map_take]at this;exact⟨by rw[au,Nat.min_eq_left hm];exact this,fun x hx=>s.byte x (List.mem_of_mem_take hx)⟩
attribute [go_sem] Nat.sub_zero
theorem Yx.open{B:Nat}{E:Q}{h:Hp}{v:A}{l:List Nat}(s:Yx B E h v l):∃p c,v=J p (G l) c/\(G l)<=c:=by
 rcases s.Zq with⟨⟨p,rfl⟩,hm,_⟩|⟨b,cap,ZG,_,rfl,_,_,_,hc⟩
 .exact⟨p,0,by rw[hm],nc⟩
 .exact⟨_,cap,rfl,hc⟩
def Ph:A->Prop
 | J _ m c=>m<=c
 | _=>True
theorem Yx.cap{B:Nat}{E:Q}{h:Hp}{v:A}{l:List Nat}(s:Yx B E h v l):Ph v:=by
 obtain⟨p,c,rfl,hc⟩:=s.open;exact hc
theorem Zk.pp{B:Nat}{h:Hp}(hB:B<=h.size)(a b:Obj):Zk B (h.push a) (h.push b):=
 ⟨Hg,fun k hk=>by rw[W,W,if_neg nc,if_neg nc]⟩
end Go.V

/- Part W6. -/
import Derived.Test.YtdapjaalaomghaaGreatDoorW4
open Go.Value renaming slice→J,pointer→U
open Go.Obj renaming cells→S
open List renaming length→G,size_toArray→ae,length_take→al
open Option renaming bind_some→O,map_some→ab,some→D,none→M
open Array renaming getElem?_setIfInBounds→L,getElem?_push→W,getD_eq_getD_getElem?→Y
open Go renaming Value→A,TypeId→Q,Operand→Z,Program→aa
namespace Go.V
set_option linter.all false
variable{t:Q}{x:Z}
section
variable {P:aa} {T:World} {K:A->Hp->Prop} {F:Env} {h:Hp} {ty:Q}
def ai(B:Nat)(h0:Hp)(s:Option Bool)(n:Option Nat)(p:A)(C:A->Prop):Prop:=
 match p with
 | U (D a)=>if a.block<B then (match s,n with
  | some false,_=>qR (hc h0 a) C
  | some true,D n=>qR ((rd h0 a n).map fun l=>.agg l.toArray) C
  | _,_=>False) else False
 | _=>False
def S4(P:aa)(T:World)(B:Nat)(h0:Hp)(op:Op)(ty:Q)(C:A->Prop)(F:Env):Prop:=
 match op with
 | .load t x=>ai B h0 (ta P t) (tn P t) (ev F x) C
 | op=>∃v,(∀h',Sb P T op ty (OU v h') F h')/\ap C v
def gU(P:aa)(T:World)(ops:List Oper)(B:Nat)(h0:Hp)(N:Env->Hp->Prop):List (Nat × Bool × Oper)->Env->Hp->Prop
 | [],F,h=>N F h
 | (_,true,⟨d,op,ty,_,_,M⟩) :: l,F,h=>S4 P T B h0 op ty (fun v=>gU P T ops B h0 N l (YB F d v) h) F
 | (_,false,⟨d,op,ty,_,_,M⟩) :: l,F,h=>Sb P T op ty (fun v h'=>Zj B h0 h'/\gU P T ops B h0 N l (YB F d v) h') F h
 | (_,true,⟨d,op,ty,_,_,D (j,b)⟩) :: l,F,h=>JL (WC ops F j) b (S4 P T B h0 op ty (fun v=>gU P T ops B h0 N l (YB F d v) h) F) (gU P T ops B h0 N l (YB F d undef) h)
 | (_,false,⟨d,op,ty,_,_,D (j,b)⟩) :: l,F,h=>JL (WC ops F j) b (Sb P T op ty (fun v h'=>Zj B h0 h'/\gU P T ops B h0 N l (YB F d v) h') F h) (gU P T ops B h0 N l (YB F d undef) h)
theorem Um{B:Nat}{h0 h':Hp}(b:Zj B h0 h'){a:Addr}(ha:a.block<B)(n:Nat):rd h' a n=rd h0 a n:=by unfold rd;rw[b.block _ ha]
theorem He{c p:Prop}[Decidable c]:(if c then p else False)=(c/\p):=by
 by_cases hc:c<;>simp[hc]
theorem Td{B:Nat}{h0:Hp}{op:Op}{C:A->Prop}(H:S4 P T B h0 op ty C F):∃v,(∀h',Zj B h0 h'->Sb P T op ty (fun v' Kg=>v'=v/\Kg=h') F h')/\C v:=by
 unfold S4 at H;split at H
 .rename_i t x;unfold ai at H;split at H
  .rename_i a ha;rw[He]at H;obtain⟨hb,H⟩:=H;split at H
   .rename_i hs;unfold qR at H;split at H
    .rename_i v hv;refine⟨v,fun h' CU=>?_,H⟩;show MP (ta P t) (tn P t) (ev F x) _ h';rw[hs,ha];rw[Dm,CU.hc hb,hv];exact⟨rfl,rfl⟩
    .exact H.elim
   .rename_i n hs hn;unfold qR at H;split at H
    .rename_i v hv;refine⟨v,fun h' CU=>?_,H⟩;show MP (ta P t) (tn P t) (ev F x) _ h';rw[hs,hn,ha];rw[Gs,Um CU hb]
     cases hr:rd h0 a n with
     | none=>rw[hr]at hv;cases hv
     | some l=>
      rw[hr]at hv;simp only[ab,Option.some.injEq]at hv;subst hv;exact⟨rfl,rfl⟩
    .exact H.elim
   .exact H.elim
  .exact H.elim
 .obtain⟨v,hv,hc⟩:=H;exact⟨v,fun h' _=>hv h',hc⟩
theorem Qp{ops:List Oper}{B:Nat}{h0:Hp}{N:Env->Hp->Prop}:∀(l:List (Nat × Bool × Oper)) (F:Env) (h:Hp),gU P T ops B h0 N l F h->MM P T ops.toArray (fun h'=>Zj B h0 h') N l F h
 | [],F,h,H=>H
 | (i,true,⟨d,op,ty,pos,Vi,M⟩) :: l,F,h,H=>by
  show (if YI ops.toArray _ F=true then _ else _);rw[if_pos (by rfl)];obtain⟨v,hv,H⟩:=Td H;exact⟨v,fun h' hs=>QG (hv h' hs),Qp l _ _ H⟩
 | (i,false,⟨d,op,ty,pos,Vi,M⟩) :: l,F,h,H=>by
  show (if YI ops.toArray _ F=true then _ else _);rw[if_pos (by rfl)];exact Uv (fun v h' q=>⟨q.1,Qp l _ _ q.2⟩) H
 | (i,true,⟨d,op,ty,pos,Vi,D (j,b)⟩) :: l,F,h,H=>by
  show (if YI ops.toArray _ F=true then _ else _);rcases XK ops F d op pos Vi j b H with⟨hw,H⟩|⟨hw,H⟩
  .rw[if_pos hw];obtain⟨v,hv,H⟩:=Td H;exact⟨v,fun h' hs=>QG (hv h' hs),Qp l _ _ H⟩
  .rw[hw,if_neg uK];exact Qp l _ _ H
 | (i,false,⟨d,op,ty,pos,Vi,D (j,b)⟩) :: l,F,h,H=>by
  show (if YI ops.toArray _ F=true then _ else _);rcases XK ops F d op pos Vi j b H with⟨hw,H⟩|⟨hw,H⟩
  .rw[if_pos hw];exact Uv (fun v h' q=>⟨q.1,Qp l _ _ q.2⟩) H
  .rw[hw,if_neg uK];exact Qp l _ _ H
def VU(ops:List Oper):List (Nat × Bool)->List (Nat × Bool × Oper)
 | []=>[]
 | (i,q) :: l=>(match nth ops i with|some o=>(i,q,o)|none=>(i,q,default)) :: VU ops l
theorem VS.b{n:Nat}{N:Env->Hp->Prop}{X:Nat->Env->Hp->Prop}{R:Env->Hp->Prop}{id:Nat}{ops:List Oper}(B:Nat)(l:List (Nat × Bool))(hm:P.follows .mixedOrders=true)(Uj:S5 n ops.toArray l=true)(H:gU P T ops B h N (VU ops l) F h):VS P n T (.region id ops.toArray true) N X R F h:=by
 refine VS.held (fun h'=>Zj B h h') l hm Uj (Zj.refl _ _) ?_;have e:Vz ops.toArray l=VU ops l:=by
  unfold Vz;have:∀l:List (Nat × Bool),(l.map fun (i,q)=>(i,q,ops.toArray.getD i default))=VU ops l:=by
   intro l
   induction l with
   | nil=>rfl
   | cons x l ih=>
    obtain⟨i,q⟩:=x;simp only[List.map_cons,VU,ih]
    congr 1
    rw[YW]
    cases hx:ops[i]? with
    | none=>simp[Y,hx]
    | some o=>simp[Y,hx]
  exact this l
 rw[e];exact Qp _ _ _ H
def hK(P:aa)(T:World)(ops:List Oper)(B:Nat)(h0:Hp)(N:Env->Hp->Prop)(l:List (Nat × Bool × Oper))(F:Env)(d:Option Tmp)(h:Hp):A->Prop:=fun v=>gU P T ops B h0 N l (YB F d v) h
def hKs(P:aa)(T:World)(ops:List Oper)(B:Nat)(h0:Hp)(N:Env->Hp->Prop)(l:List (Nat × Bool × Oper))(F:Env)(d:Option Tmp):A->Hp->Prop:=fun v h'=>Zj B h0 h'/\gU P T ops B h0 N l (YB F d v) h'
section
variable {ops:List Oper} {l:List (Nat × Bool × Oper)} {B:Nat} {h0:Hp} {N:Env->Hp->Prop} {d:Option Tmp} {op:Op} {pos:String} {Vi:Array Edge} {i j:Nat} {b c:Bool} {C:A->Prop}
@[go_sem] theorem ZnP:gU P T ops B h0 N [] F h=N F h:=rfl
@[go_sem] theorem Zw1:gU P T ops B h0 N ((i,true,⟨d,op,ty,pos,Vi,M⟩) :: l) F h=S4 P T B h0 op ty (hK P T ops B h0 N l F d h) F:=rfl
@[go_sem] theorem Zw2:gU P T ops B h0 N ((i,false,⟨d,op,ty,pos,Vi,M⟩) :: l) F h=Sb P T op ty (hKs P T ops B h0 N l F d) F h:=rfl
@[go_sem] theorem ZqS{v:A}:hK P T ops B h0 N l F d h v=gU P T ops B h0 N l (YB F d v) h:=rfl
@[go_sem] theorem ZnQ{v:A}:hKs P T ops B h0 N l F d v h=(Zj B h0 h/\gU P T ops B h0 N l (YB F d v) h):=rfl
@[go_sem] theorem ZeX:VU ops []=[]:=rfl
def inO(ops:List Oper)(i:Nat)(q:Bool)(o:Option Oper)(l:List (Nat × Bool)):List (Nat × Bool × Oper):=(match o with|some o=>(i,q,o)|none=>(i,q,default)) :: VU ops l
@[go_sem] theorem ZcB{q:Bool}{l:List (Nat × Bool)}:VU ops ((i,q) :: l)=inO ops i q (nth ops i) l:=rfl
@[go_sem] theorem Zj5{q:Bool}{o:Oper}{l:List (Nat × Bool)}:inO ops i q (D o) l=(i,q,o) :: VU ops l:=rfl
@[go_sem] theorem hEq{v:A}:(∃u,(∀h':Hp,OU u h' v h')/\ap C u)=C v:=by
 apply propext;constructor
 .rintro⟨u,hu,H⟩;obtain⟨e,_⟩:=hu #[];subst e;exact H
 .intro H;exact⟨v,fun _=>⟨rfl,rfl⟩,H⟩
@[go_sem] theorem Zj6:S4 P T B h0 (.load t x) ty C F=ai B h0 (ta P t) (tn P t) (ev F x) C:=rfl
@[go_sem] theorem ZiY{n:Option Nat}{a:Addr}:ai B h0 (D false) n (U (D a)) C=if a.block<B then qR (hc h0 a) C else False:=rfl
@[go_sem] theorem Zgg{n:Nat}{a:Addr}:ai B h0 (D true) (D n) (U (D a)) C=if a.block<B then qR ((rd h0 a n).map fun l=>.agg l.toArray) C else False:=rfl
@[go_sem] theorem Zj7:S4 P T B h0 (.move x) ty C F=C (ev F x):=hEq
@[go_sem] theorem Zgh:S4 P T B h0 (.assign x) ty C F=C (ev F x):=hEq
@[go_sem] theorem ZiZ{i:Nat}:S4 P T B h0 (.fieldAddr t x i) ty C F = ∃v,(∀h':Hp,NZ (tf P t i) (ev F x) (OU v h') h')/\ap C v:=rfl
@[go_sem] theorem ZqT{i:Z}:S4 P T B h0 (.indexAddr t x i) ty C F = ∃v,(∀h':Hp,vIx (Xn P t) (QP P t) (tn P) (ev F x) (ev F i) (OU v h') h')/\ap C v:=rfl
@[go_sem] theorem Zj8{y z:Z}:S4 P T B h0 (.pick x y z) ty C F = ∃v,(∀h':Hp,Dj (ev F x) (ev F y) (ev F z) (OU v h') h')/\ap C v:=rfl
@[go_sem] theorem ZnR:S4 P T B h0 (.nilCheck x) ty C F = ∃v,(∀h':Hp,fO (ev F x) (OU v h') h')/\ap C v:=rfl
@[go_sem] theorem ZnS{op:BinOp}{t':Q}{y:Z}:S4 P T B h0 (.binOp op t x y t') ty C F = ∃v,(∀h':Hp,XS P op t x y (ev F x) (ev F y) (OU v h') h')/\ap C v:=rfl
@[go_sem] theorem ZqU{op:UnOp}:S4 P T B h0 (.unOp op t x) ty C F = ∃v,(∀h':Hp,vUn P op (ev F x) (OU v h') h')/\ap C v:=rfl
@[go_sem] theorem Zj9{s:Q}:S4 P T B h0 (.convert s t x) ty C F = ∃v,(∀h':Hp,MQ P s t (ev F x) (OU v h') h')/\ap C v:=rfl
@[go_sem] theorem ZeY{i:Nat}:S4 P T B h0 (.extract x i) ty C F = ∃v,(∀h':Hp,Vg (ev F x) i (OU v h') h')/\ap C v:=rfl
@[go_sem] theorem ZnT{lo hi mx:Option Z}:S4 P T B h0 (.slice t x lo hi mx) ty C F = ∃v,(∀h':Hp,Ey (Xn P t) (QP P t) (Vf P t) (tn P) (ev F x) (lu F lo) (lu F hi) (lu F mx) (OU v h') h')/\ap C v:=rfl
@[go_sem] theorem Zi0{parts:Array (Nat × Z)}:S4 P T B h0 (.build t parts) ty C F = ∃v,(∀h':Hp,N0 (tz P t) (Ny P t) (Xn P t) (tn P) (fP F parts.toList) (OU v h') h')/\ap C v:=rfl
@[go_sem] theorem ZqV{b:Builtin}{args:Array Z}{ts:Array Q}:S4 P T B h0 (.call ⟨.builtin b,args,ts⟩) ty C F =
  ∃v,(∀h':Hp,PY P T b ts ty (args.map fun|.const _=>true|_=>false) (nZ F args.toList) (OU v h') h')/\ap C v:=rfl
end
@[go_sem] theorem ZqW{l:List A}{b b' o:Nat}:hc (h.setIfInBounds b (S l.toArray t)) ⟨b',o,M⟩=if b'=b then (if b<h.size then nth l o else M) else hc h ⟨b',o,M⟩:=by
 unfold hc;simp only[L];by_cases hb:b=b'
 .subst hb;by_cases hs:b<h.size
  .simp[hs,YW]
  .simp[hs]
 .have J9:¬b'=b:=fun e=>hb e.symm;simp[hb,J9]
@[go_sem] theorem ZqX{l:List A}{b b' o n:Nat}:rd (h.setIfInBounds b (S l.toArray t)) ⟨b',o,M⟩ n=if b'=b then (if b<h.size then (if o+n<=(G l) then D ((l.drop o).take n) else M) else M) else rd h ⟨b',o,M⟩ n:=by
 unfold rd;simp only[L];by_cases hb:b=b'
 .subst hb;by_cases hs:b<h.size
  .simp[hs]
  .simp[hs]
 .have J9:¬b'=b:=fun e=>hb e.symm;simp[hb,J9]
attribute [go_sem] Array.size_setIfInBounds
theorem Yd{l:List A}{b:Nat}(hr:h[b]? = D (S l.toArray t))(o:Nat)(vs:List A):wr h ⟨b,o,M⟩ vs=if o+(G vs)<=(G l)/\vs.all YD=true then D (h.setIfInBounds b (S (Y8 l o vs).toArray t)) else M:=by
 unfold wr;simp only[hr,ae,Nat.le_refl,true_and]
theorem Xh{l:List A}{b:Nat}(hr:h[b]? = D (S l.toArray t))(o:Nat)(v:A):QQ h ⟨b,o,M⟩ v=if o<(G l)/\YD v=true then D (h.setIfInBounds b (S (l.set o v).toArray t)) else M:=by
 unfold QQ;simp only[hr,ae,Nat.le_refl,true_and,List.setIfInBounds_toArray]
theorem Zj.get{B:Nat}{h0 h1:Hp}(b:Zj B h0 h1){k:Nat}{o:Obj}(hk:k<B)(h:h0[k]? = D o):h1[k]? = D o:=(b.block k hk).trans h
theorem Zc{o:Obj}:(h.push o)[h.size]? = D o:=uK
theorem ZI{o:Obj}{b:Nat}(hb:b<h.size):(h.push o)[b]? = h[b]?:=by rw[W,if_neg nT]
end
section
variable {P:aa} {h:Hp}
def rvF(s:Option Bool)(n:Option Nat)(a:Addr)(h:Hp):Option A:=
 match s,n with
 | some false,_=>hc h a
 | some true,D n=>(rd h a n).map fun l=>.agg l.toArray
 | _,_=>M
@[go_sem] theorem Zka{n:Nat}{a:Addr}:rvF (D true) (D n) a h=(rd h a n).map fun l=>.agg l.toArray:=rfl
theorem aj{b:Bool}(hb:ta P t=D b):hr P (isAgg t) h=D b:=by
 unfold ta at hb
 cases hi:P.underlying t with
 | none=>rw[hi]at hb;cases hb
 | some d=>
  rw[hi]at hb;simp only[ab,Option.some.injEq]at hb;subst hb;unfold isAgg underlying;rw[QN,QN];show ((hr P (match P.underlying t with|some d=>pure d|none=>stuck "no such type") h).bind fun a=>hr P (match a with|.struct _=>pure true|.array _ _=>pure true|_=>pure false) h)=_
  rw[hi]
  cases d<;>rfl
theorem pG{n:Nat}(hn:tn P t=D n):hr P (sizeOf t) h=D n:=by
 unfold tn at hn
 cases hi:P.info? t with
 | none=>rw[hi]at hn;cases hn
 | some i=>
  rw[hi]at hn;simp only[ab,Option.some.injEq]at hn;subst hn;unfold sizeOf typeInfo;rw[QN,QN];show ((hr P (match P.info? t with|some d=>pure d|none=>stuck "no such type") h).bind fun a=>hr P (pure a.size) h)=_
  rw[hi];rfl
theorem CV(a:Addr)(c:List A):∀(n i:Nat) (acc:Array A),(∀j,j<n->hc h (a.add (i+j))=D (c.getD j undef))->n=(G c)->hr P (loadCellsFrom a i n acc) h=D (acc++c.toArray):=by
 induction c with
 | nil=>intro n i acc _ hn;subst hn;simp[loadCellsFrom,pure,hr]
 | cons v c ih=>
  intro n i acc hj hn;subst hn;show hr P (load (a.add i) >>= fun v=>loadCellsFrom a (i+1) (G c) (acc.push v)) h=_;rw[QN];have e:hr P (load (a.add i)) h=D v:=by
   have:=hj 0 uK;rw[Nat.add_zero]at this;show (hc h (a.add i)).bind _=_;rw[this];rfl
  rw[e,O,ih _ (i+1) _ (fun j fS=>?_) rfl]
  .simp
  .have:=hj (j+1) Ig;have e:i+(j+1)=i+1+j:=nT;rw[e]at this
   simpa using this
@[go_sem] theorem gW{a:Addr}(hs:(rvF (ta P t) (tn P t) a h).isSome=true):MN P t (U (D a)) h=rvF (ta P t) (tn P t) a h:=by
 unfold MN;show hr P (loadVar t a) h=_;unfold loadVar;rw[QN];unfold rvF at hs ⊢;split at hs
 .rename_i ht;rw[aj ht,O,if_neg uK];show (hc h a).bind (fun v=>D v)=hc h a
  cases hc h a<;>rfl
 .rename_i n ht hn;rw[aj ht,O,if_pos rfl,QN,pG hn,O,QN]
  cases hl:rd h a n with
  | none=>rw[hl]at hs;cases hs
  | some l=>
   unfold rd at hl;split at hl
   .rename_i c e fr hb;split at hl
    .rename_i MT;obtain⟨h1,h2⟩:=MT;simp only[Option.some.injEq]at hl;subst hl;have hlen:((c.toList.drop a.off).take n).length=n:=Ig;have:=CV (P:=P) (h:=h) a ((c.toList.drop a.off).take n) n 0 #[] (fun j hj=>by
      rw[OS a _ h1];unfold hc;rw[hb];simp only[Option.isSome_none,Bool.false_eq_true,if_false];rw[List.getD_eq_getElem?_getD,List.getElem?_take,if_pos hj,List.getElem?_drop];have e:a.off+(0+j)=a.off+j:=nT;rw[e];simp;rw[Array.getElem?_eq_getElem nT];rfl) hlen.symm
     unfold loadCells;rw[this,O];show D (Value.agg (#[]++_))=_;simp
    .cases hl
   .cases hl
 .cases hs
end
theorem UK.Z9{B:Nat}{E:Q}{n:Nat}{h:Hp}{v:A}{m:Nat}{cs:List A}(s:UK B E n h v m cs){b:Nat}(hb:b<B)(o:Obj):UK B E n (h.setIfInBounds b o) v m cs:=by
 rcases s with s|⟨b',cap,ZG,hB,rfl,hg,r⟩
 .exact .inl s
 .exact .inr ⟨b',cap,ZG,hB,rfl,by rw[L,if_neg nT];exact hg,r⟩
theorem Yx.Z9{B:Nat}{E:Q}{h:Hp}{v:A}{l:List Nat}(s:Yx B E h v l){b:Nat}(hb:b<B)(o:Obj):Yx B E (h.setIfInBounds b o) v l:=⟨s.Zm.Z9 hb o,s.byte⟩
theorem Zj.Zs{B:Nat}{h h':Hp}(a:Zj B h h'){b:Nat}(hb:B<=b)(o:Obj):Zj B h (h'.setIfInBounds b o):=a.trans (Zj.set hb o)
@[go_sem] theorem Zgj{K:A->Hp->Prop}{h:Hp}{a:Option Addr}{n cap b:Nat}:Nz a n cap b (D 0) K h=K (J a b cap) h:=by
 have e:(if cap=0 then a else a.map (·.add (0*n)))=a:=by
  split
  .rfl
  .rw[Nat.zero_mul];cases a<;>simp[Addr.add]
 simp only[Nz,e,Nat.sub_zero]
theorem Sl.Md{h:Hp}{p:Option Addr}{k c:Nat}{cs:List A}(s:Sl 1 h (J p k c) k cs){m:Nat}(hm:m<=k)(c':Nat):Sl 1 h (J p m c') m (cs.take m):=by
 obtain⟨p',cap,hv,hl,hc⟩:=s;simp only[Value.slice.injEq]at hv;obtain⟨rfl,_,rfl⟩:=hv;refine⟨p,c',rfl,aac,fun Y4=>?_⟩;obtain⟨b,o,rfl,XI⟩:=hc (by intro e;subst e;simp at Y4);refine⟨b,o,rfl,fun i hi=>?_⟩;have HN:i<(G cs):=by rw[al]at hi;omega
 rw[XI i HN];simp
theorem Bs.Md{h:Hp}{p:Option Addr}{c:Nat}{l:List Nat}(s:Bs h (J p (G l) c) l){m:Nat}(hm:m<=(G l))(c':Nat):Bs h (J p m c') (l.take m):=by
 have:=s.sl.Md hm c';rw[<-List.map_take]at this;exact⟨by rw[al,Nat.min_eq_left hm];exact this,fun x hx=>s.byte x (List.mem_of_mem_take hx)⟩
attribute [go_sem] Nat.sub_zero
theorem Yx.open{B:Nat}{E:Q}{h:Hp}{v:A}{l:List Nat}(s:Yx B E h v l):∃p c,v=J p (G l) c/\(G l)<=c:=by
 rcases s.Zm with⟨⟨p,rfl⟩,hm,_⟩|⟨b,cap,ZG,_,rfl,_,_,_,hc⟩
 .exact⟨p,0,by rw[hm],nT⟩
 .exact⟨_,cap,rfl,hc⟩
def PM:A->Prop
 | J _ m c=>m<=c
 | _=>True
theorem Yx.cap{B:Nat}{E:Q}{h:Hp}{v:A}{l:List Nat}(s:Yx B E h v l):PM v:=by
 obtain⟨p,c,rfl,hc⟩:=s.open;exact hc
theorem Zj.pp{B:Nat}{h:Hp}(hB:B<=h.size)(a b:Obj):Zj B (h.push a) (h.push b):=
 ⟨uK,fun k hk=>by rw[W,W,if_neg nT,if_neg nT]⟩
end Go.V

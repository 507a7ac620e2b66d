/- Part W6. -/
import Derived.Test.YtdpjmhgbmhjniaaGreatDoorW4
open Go.Value renaming slice→J,pointer→W
open Go.Obj renaming cells→S
open List renaming length→G,size_toArray→am,length_take→ao
open Option renaming bind_some→O,map_some→al,some→D,none→M
open Array renaming getElem?_setIfInBounds→L,getElem?_push→Y,getD_eq_getD_getElem?→Z
open Go renaming Value→A,TypeId→Q,Operand→U,Program→aa
namespace Go.V
set_option linter.all false
variable{t:Q}{x:U}
section
variable {P:aa} {T:World} {K:A->Hp->Prop} {F:Env} {h:Hp} {ty:Q}
def DX(B:Nat)(h0:Hp)(s:Option Bool)(n:Option Nat)(p:A)(C:A->Prop):Prop:=
 match p with
 | W (D a)=>if a.block<B then (match s,n with
  | some false,_=>qR (hc h0 a) C
  | some true,D n=>qR ((rd h0 a n).map fun l=>.agg l.toArray) C
  | _,_=>False) else False
 | _=>False
def VY(P:aa)(T:World)(B:Nat)(h0:Hp)(op:Op)(ty:Q)(C:A->Prop)(F:Env):Prop:=
 match op with
 | .load t x=>DX B h0 (ta P t) (tn P t) (ev F x) C
 | op=>∃v,(∀h',Vc P T op ty (Sz v h') F h')/\ap C v
def aE(P:aa)(T:World)(ops:List Oper)(B:Nat)(h0:Hp)(N:Env->Hp->Prop):List (Nat × Bool × Oper)->Env->Hp->Prop
 | [],F,h=>N F h
 | (_,true,⟨d,op,ty,_,_,M⟩) :: l,F,h=>VY P T B h0 op ty (fun v=>aE P T ops B h0 N l (Z5 F d v) h) F
 | (_,false,⟨d,op,ty,_,_,M⟩) :: l,F,h=>Vc P T op ty (fun v h'=>Zf B h0 h'/\aE P T ops B h0 N l (Z5 F d v) h') F h
 | (_,true,⟨d,op,ty,_,_,D (j,b)⟩) :: l,F,h=>XX (Ug ops F j) b (VY P T B h0 op ty (fun v=>aE P T ops B h0 N l (Z5 F d v) h) F) (aE P T ops B h0 N l (Z5 F d undef) h)
 | (_,false,⟨d,op,ty,_,_,D (j,b)⟩) :: l,F,h=>XX (Ug ops F j) b (Vc P T op ty (fun v h'=>Zf B h0 h'/\aE P T ops B h0 N l (Z5 F d v) h') F h) (aE P T ops B h0 N l (Z5 F d undef) h)
theorem JW{B:Nat}{h0 h':Hp}(b:Zf B h0 h'){a:Addr}(ha:a.block<B)(n:Nat):rd h' a n=rd h0 a n:=by unfold rd;rw[b.block _ ha]
theorem LO{c p:Prop}[Decidable c]:(if c then p else False)=(c/\p):=by
 by_cases hc:c<;>simp[hc]
theorem Wn{B:Nat}{h0:Hp}{op:Op}{C:A->Prop}(H:VY P T B h0 op ty C F):∃v,(∀h',Zf B h0 h'->Vc P T op ty (fun v' NS=>v'=v/\NS=h') F h')/\C v:=by
 unfold VY at H;split at H
 .rename_i t x;unfold DX at H;split at H
  .rename_i a ha;rw[LO]at H;obtain⟨hb,H⟩:=H;split at H
   .rename_i hs;unfold qR at H;split at H
    .rename_i v hv;refine⟨v,fun h' FZ=>?_,H⟩;show OB (ta P t) (tn P t) (ev F x) _ h';rw[hs,ha];rw[GG,FZ.hc hb,hv];exact⟨rfl,rfl⟩
    .exact H.elim
   .rename_i n hs hn;unfold qR at H;split at H
    .rename_i v hv;refine⟨v,fun h' FZ=>?_,H⟩;show OB (ta P t) (tn P t) (ev F x) _ h';rw[hs,hn,ha];rw[KI,JW FZ hb]
     cases hr:rd h0 a n with
     | none=>rw[hr]at hv;cases hv
     | some l=>
      rw[hr]at hv;simp only[al,Option.some.injEq]at hv;subst hv;exact⟨rfl,rfl⟩
    .exact H.elim
   .exact H.elim
  .exact H.elim
 .obtain⟨v,hv,hc⟩:=H;exact⟨v,fun h' _=>hv h',hc⟩
theorem Jt{ops:List Oper}{B:Nat}{h0:Hp}{N:Env->Hp->Prop}:∀(l:List (Nat × Bool × Oper)) (F:Env) (h:Hp),aE P T ops B h0 N l F h->Ox P T ops.toArray (fun h'=>Zf B h0 h') N l F h
 | [],F,h,H=>H
 | (i,true,⟨d,op,ty,pos,UH,M⟩) :: l,F,h,H=>by
  show (if Yo ops.toArray _ F=true then _ else _);rw[if_pos (by rfl)];obtain⟨v,hv,H⟩:=Wn H;exact⟨v,fun h' hs=>JI (hv h' hs),Jt l _ _ H⟩
 | (i,false,⟨d,op,ty,pos,UH,M⟩) :: l,F,h,H=>by
  show (if Yo ops.toArray _ F=true then _ else _);rw[if_pos (by rfl)];exact Qr (fun v h' q=>⟨q.1,Jt l _ _ q.2⟩) H
 | (i,true,⟨d,op,ty,pos,UH,D (j,b)⟩) :: l,F,h,H=>by
  show (if Yo ops.toArray _ F=true then _ else _);rcases Xb ops F d op pos UH j b H with⟨hw,H⟩|⟨hw,H⟩
  .rw[if_pos hw];obtain⟨v,hv,H⟩:=Wn H;exact⟨v,fun h' hs=>JI (hv h' hs),Jt l _ _ H⟩
  .rw[hw,if_neg Dq];exact Jt l _ _ H
 | (i,false,⟨d,op,ty,pos,UH,D (j,b)⟩) :: l,F,h,H=>by
  show (if Yo ops.toArray _ F=true then _ else _);rcases Xb ops F d op pos UH j b H with⟨hw,H⟩|⟨hw,H⟩
  .rw[if_pos hw];exact Qr (fun v h' q=>⟨q.1,Jt l _ _ q.2⟩) H
  .rw[hw,if_neg Dq];exact Jt l _ _ H
def Wf(ops:List Oper):List (Nat × Bool)->List (Nat × Bool × Oper)
 | []=>[]
 | (i,q) :: l=>(match nth ops i with|some o=>(i,q,o)|none=>(i,q,default)) :: Wf ops l
theorem VS.b{n:Nat}{N:Env->Hp->Prop}{X:Nat->Env->Hp->Prop}{R:Env->Hp->Prop}{id:Nat}{ops:List Oper}(B:Nat)(l:List (Nat × Bool))(hm:P.follows .mixedOrders=true)(XM:V3 n ops.toArray l=true)(H:aE P T ops B h N (Wf ops l) F h):VS P n T (.region id ops.toArray true) N X R F h:=by
 refine VS.held (fun h'=>Zf B h h') l hm XM (Zf.refl _ _) ?_;have e:UY ops.toArray l=Wf ops l:=by
  unfold UY;have:∀l:List (Nat × Bool),(l.map fun (i,q)=>(i,q,ops.toArray.getD i default))=Wf ops l:=by
   intro l
   induction l with
   | nil=>rfl
   | cons x l ih=>
    obtain⟨i,q⟩:=x;simp only[List.map_cons,Wf,ih]
    congr 1
    rw[YE]
    cases hx:ops[i]? with
    | none=>simp[Z,hx]
    | some o=>simp[Z,hx]
  exact this l
 rw[e];exact Jt _ _ _ H
def hK(P:aa)(T:World)(ops:List Oper)(B:Nat)(h0:Hp)(N:Env->Hp->Prop)(l:List (Nat × Bool × Oper))(F:Env)(d:Option Tmp)(h:Hp):A->Prop:=fun v=>aE P T ops B h0 N l (Z5 F d v) h
def hKs(P:aa)(T:World)(ops:List Oper)(B:Nat)(h0:Hp)(N:Env->Hp->Prop)(l:List (Nat × Bool × Oper))(F:Env)(d:Option Tmp):A->Hp->Prop:=fun v h'=>Zf B h0 h'/\aE P T ops B h0 N l (Z5 F d v) h'
section
variable {ops:List Oper} {l:List (Nat × Bool × Oper)} {B:Nat} {h0:Hp} {N:Env->Hp->Prop} {d:Option Tmp} {op:Op} {pos:String} {UH:Array Edge} {i j:Nat} {b c:Bool} {C:A->Prop}
@[go_sem] theorem ZjS:aE P T ops B h0 N [] F h=N F h:=rfl
@[go_sem] theorem Zte:aE P T ops B h0 N ((i,true,⟨d,op,ty,pos,UH,M⟩) :: l) F h=VY P T B h0 op ty (hK P T ops B h0 N l F d h) F:=rfl
@[go_sem] theorem Ztf:aE P T ops B h0 N ((i,false,⟨d,op,ty,pos,UH,M⟩) :: l) F h=Vc P T op ty (hKs P T ops B h0 N l F d) F h:=rfl
@[go_sem] theorem Zng{v:A}:hK P T ops B h0 N l F d h v=aE P T ops B h0 N l (Z5 F d v) h:=rfl
@[go_sem] theorem ZjT{v:A}:hKs P T ops B h0 N l F d v h=(Zf B h0 h/\aE P T ops B h0 N l (Z5 F d v) h):=rfl
@[go_sem] theorem ZaT:Wf ops []=[]:=rfl
def inO(ops:List Oper)(i:Nat)(q:Bool)(o:Option Oper)(l:List (Nat × Bool)):List (Nat × Bool × Oper):=(match o with|some o=>(i,q,o)|none=>(i,q,default)) :: Wf ops l
@[go_sem] theorem wZ{q:Bool}{l:List (Nat × Bool)}:Wf ops ((i,q) :: l)=inO ops i q (nth ops i) l:=rfl
@[go_sem] theorem ZfR{q:Bool}{o:Oper}{l:List (Nat × Bool)}:inO ops i q (D o) l=(i,q,o) :: Wf ops l:=rfl
@[go_sem] theorem hEq{v:A}:(∃u,(∀h':Hp,Sz u h' v h')/\ap C u)=C v:=by
 apply propext;constructor
 .rintro⟨u,hu,H⟩;obtain⟨e,_⟩:=hu #[];subst e;exact H
 .intro H;exact⟨v,fun _=>⟨rfl,rfl⟩,H⟩
@[go_sem] theorem ZfS:VY P T B h0 (.load t x) ty C F=DX B h0 (ta P t) (tn P t) (ev F x) C:=rfl
@[go_sem] theorem ZeL{n:Option Nat}{a:Addr}:DX B h0 (D false) n (W (D a)) C=if a.block<B then qR (hc h0 a) C else False:=rfl
@[go_sem] theorem Zch{n:Nat}{a:Addr}:DX B h0 (D true) (D n) (W (D a)) C=if a.block<B then qR ((rd h0 a n).map fun l=>.agg l.toArray) C else False:=rfl
@[go_sem] theorem ZfT:VY P T B h0 (.move x) ty C F=C (ev F x):=hEq
@[go_sem] theorem Zci:VY P T B h0 (.assign x) ty C F=C (ev F x):=hEq
@[go_sem] theorem ZeM{i:Nat}:VY P T B h0 (.fieldAddr t x i) ty C F = ∃v,(∀h':Hp,PP (tf P t i) (ev F x) (Sz v h') h')/\ap C v:=rfl
@[go_sem] theorem Znh{i:U}:VY P T B h0 (.indexAddr t x i) ty C F = ∃v,(∀h':Hp,vIx (YO P t) (Js P t) (tn P) (ev F x) (ev F i) (Sz v h') h')/\ap C v:=rfl
@[go_sem] theorem ZfU{y z:U}:VY P T B h0 (.pick x y z) ty C F = ∃v,(∀h':Hp,GB (ev F x) (ev F y) (ev F z) (Sz v h') h')/\ap C v:=rfl
@[go_sem] theorem ZjU:VY P T B h0 (.nilCheck x) ty C F = ∃v,(∀h':Hp,AG (ev F x) (Sz v h') h')/\ap C v:=rfl
@[go_sem] theorem ZjV{op:BinOp}{t':Q}{y:U}:VY P T B h0 (.binOp op t x y t') ty C F = ∃v,(∀h':Hp,Y1 P op t x y (ev F x) (ev F y) (Sz v h') h')/\ap C v:=rfl
@[go_sem] theorem Zni{op:UnOp}:VY P T B h0 (.unOp op t x) ty C F = ∃v,(∀h':Hp,vUn P op (ev F x) (Sz v h') h')/\ap C v:=rfl
@[go_sem] theorem ZfV{s:Q}:VY P T B h0 (.convert s t x) ty C F = ∃v,(∀h':Hp,V7 P s t (ev F x) (Sz v h') h')/\ap C v:=rfl
@[go_sem] theorem ZaU{i:Nat}:VY P T B h0 (.extract x i) ty C F = ∃v,(∀h':Hp,UF (ev F x) i (Sz v h') h')/\ap C v:=rfl
@[go_sem] theorem ZjW{i:U}:VY P T B h0 (.index t x i) ty C F = ∃v,(∀h':Hp,AJ (YO P t) (Uf P t) (ta P) (tn P) (ev F x) (ev F i) (Sz v h') h')/\ap C v:=rfl
@[go_sem] theorem ZjX{lo hi mx:Option U}:VY P T B h0 (.slice t x lo hi mx) ty C F = ∃v,(∀h':Hp,HK (YO P t) (Js P t) (Uf P t) (tn P) (ev F x) (eK F lo) (eK F hi) (eK F mx) (Sz v h') h')/\ap C v:=rfl
@[go_sem] theorem ZeN{parts:Array (Nat × U)}:VY P T B h0 (.build t parts) ty C F = ∃v,(∀h':Hp,PQ (tz P t) (PO P t) (YO P t) (tn P) (AH F parts.toList) (Sz v h') h')/\ap C v:=rfl
@[go_sem] theorem Znj{b:Builtin}{args:Array U}{ts:Array Q}:VY P T B h0 (.call ⟨.builtin b,args,ts⟩) ty C F =
  ∃v,(∀h':Hp,Sa P T b ts ty (args.map fun|.const _=>true|_=>false) (ie F args.toList) (Sz v h') h')/\ap C v:=rfl
end
@[go_sem] theorem Znk{l:List A}{b b' o:Nat}:hc (h.setIfInBounds b (S l.toArray t)) ⟨b',o,M⟩=if b'=b then (if b<h.size then nth l o else M) else hc h ⟨b',o,M⟩:=by
 unfold hc;simp only[L];by_cases hb:b=b'
 .subst hb;by_cases hs:b<h.size
  .simp[hs,YE]
  .simp[hs]
 .have Jc:¬b'=b:=fun e=>hb e.symm;simp[hb,Jc]
@[go_sem] theorem Znl{l:List A}{b b' o n:Nat}:rd (h.setIfInBounds b (S l.toArray t)) ⟨b',o,M⟩ n=if b'=b then (if b<h.size then (if o+n<=(G l) then D ((l.drop o).take n) else M) else M) else rd h ⟨b',o,M⟩ n:=by
 unfold rd;simp only[L];by_cases hb:b=b'
 .subst hb;by_cases hs:b<h.size
  .simp[hs]
  .simp[hs]
 .have Jc:¬b'=b:=fun e=>hb e.symm;simp[hb,Jc]
attribute [go_sem] Array.size_setIfInBounds
theorem Z2{l:List A}{b:Nat}(hr:h[b]? = D (S l.toArray t))(o:Nat)(vs:List A):wr h ⟨b,o,M⟩ vs=if o+(G vs)<=(G l)/\vs.all Yq=true then D (h.setIfInBounds b (S (YJ l o vs).toArray t)) else M:=by
 unfold wr;simp only[hr,am,Nat.le_refl,true_and]
theorem Ye{l:List A}{b:Nat}(hr:h[b]? = D (S l.toArray t))(o:Nat)(v:A):Jb h ⟨b,o,M⟩ v=if o<(G l)/\Yq v=true then D (h.setIfInBounds b (S (l.set o v).toArray t)) else M:=by
 unfold Jb;simp only[hr,am,Nat.le_refl,true_and,List.setIfInBounds_toArray]
theorem Zf.get{B:Nat}{h0 h1:Hp}(b:Zf B h0 h1){k:Nat}{o:Obj}(hk:k<B)(h:h0[k]? = D o):h1[k]? = D o:=(b.block k hk).trans h
theorem Zb{o:Obj}:(h.push o)[h.size]? = D o:=Dq
theorem Zl{o:Obj}{b:Nat}(hb:b<h.size):(h.push o)[b]? = h[b]?:=by rw[Y,if_neg gX]
end
section
variable {P:aa} {h:Hp}
def rvF(s:Option Bool)(n:Option Nat)(a:Addr)(h:Hp):Option A:=
 match s,n with
 | some false,_=>hc h a
 | some true,D n=>(rd h a n).map fun l=>.agg l.toArray
 | _,_=>M
@[go_sem] theorem ZjY{n:Option Nat}{a:Addr}:rvF (D false) n a h=hc h a:=rfl
@[go_sem] theorem ZfW{n:Nat}{a:Addr}:rvF (D true) (D n) a h=(rd h a n).map fun l=>.agg l.toArray:=rfl
theorem DY{b:Bool}(hb:ta P t=D b):hr P (isAgg t) h=D b:=by
 unfold ta at hb
 cases hi:P.underlying t with
 | none=>rw[hi]at hb;cases hb
 | some d=>
  rw[hi]at hb;simp only[al,Option.some.injEq]at hb;subst hb;unfold isAgg underlying;rw[JP,JP];show ((hr P (match P.underlying t with|some d=>pure d|none=>stuck "no such type") h).bind fun a=>hr P (match a with|.struct _=>pure true|.array _ _=>pure true|_=>pure false) h)=_
  rw[hi]
  cases d<;>rfl
theorem i6{n:Nat}(hn:tn P t=D n):hr P (sizeOf t) h=D n:=by
 unfold tn at hn
 cases hi:P.info? t with
 | none=>rw[hi]at hn;cases hn
 | some i=>
  rw[hi]at hn;simp only[al,Option.some.injEq]at hn;subst hn;unfold sizeOf typeInfo;rw[JP,JP];show ((hr P (match P.info? t with|some d=>pure d|none=>stuck "no such type") h).bind fun a=>hr P (pure a.size) h)=_
  rw[hi];rfl
theorem F6(a:Addr)(c:List A):∀(n i:Nat) (acc:Array A),(∀j,j<n->hc h (a.add (i+j))=D (c.getD j undef))->n=(G c)->hr P (loadCellsFrom a i n acc) h=D (acc++c.toArray):=by
 induction c with
 | nil=>intro n i acc _ hn;subst hn;simp[loadCellsFrom,pure,hr]
 | cons v c ih=>
  intro n i acc hj hn;subst hn;show hr P (load (a.add i) >>= fun v=>loadCellsFrom a (i+1) (G c) (acc.push v)) h=_;rw[JP];have e:hr P (load (a.add i)) h=D v:=by
   have:=hj 0 Dq;rw[Nat.add_zero]at this;show (hc h (a.add i)).bind _=_;rw[this];rfl
  rw[e,O,ih _ (i+1) _ (fun j AL=>?_) rfl]
  .simp
  .have:=hj (j+1) L6;have e:i+(j+1)=i+1+j:=gX;rw[e]at this
   simpa using this
@[go_sem] theorem aF{a:Addr}(hs:(rvF (ta P t) (tn P t) a h).isSome=true):Oy P t (W (D a)) h=rvF (ta P t) (tn P t) a h:=by
 unfold Oy;show hr P (loadVar t a) h=_;unfold loadVar;rw[JP];unfold rvF at hs ⊢;split at hs
 .rename_i ht;rw[DY ht,O,if_neg Dq];show (hc h a).bind (fun v=>D v)=hc h a
  cases hc h a<;>rfl
 .rename_i n ht hn;rw[DY ht,O,if_pos rfl,JP,i6 hn,O,JP]
  cases hl:rd h a n with
  | none=>rw[hl]at hs;cases hs
  | some l=>
   unfold rd at hl;split at hl
   .rename_i c e fr hb;split at hl
    .rename_i OF;obtain⟨h1,h2⟩:=OF;simp only[Option.some.injEq]at hl;subst hl;have hlen:((c.toList.drop a.off).take n).length=n:=L6;have:=F6 (P:=P) (h:=h) a ((c.toList.drop a.off).take n) n 0 #[] (fun j hj=>by
      rw[Rv a _ h1];unfold hc;rw[hb];simp only[Option.isSome_none,Bool.false_eq_true,if_false];rw[List.getD_eq_getElem?_getD,List.getElem?_take,if_pos hj,List.getElem?_drop];have e:a.off+(0+j)=a.off+j:=gX;rw[e];simp;rw[Array.getElem?_eq_getElem gX];rfl) hlen.symm
     unfold loadCells;rw[this,O];show D (Value.agg (#[]++_))=_;simp
    .cases hl
   .cases hl
 .cases hs
end
theorem Own.Z3{B:Nat}{E:Q}{n:Nat}{h:Hp}{v:A}{m:Nat}{cs:List A}(s:Own B E n h v m cs){b:Nat}(hb:b<B)(o:Obj):Own B E n (h.setIfInBounds b o) v m cs:=by
 rcases s with s|⟨b',cap,Zx,hB,rfl,hg,r⟩
 .exact .inl s
 .exact .inr ⟨b',cap,Zx,hB,rfl,by rw[L,if_neg gX];exact hg,r⟩
theorem Yd.Z3{B:Nat}{E:Q}{h:Hp}{v:A}{l:List Nat}(s:Yd B E h v l){b:Nat}(hb:b<B)(o:Obj):Yd B E (h.setIfInBounds b o) v l:=⟨s.Zy.Z3 hb o,s.byte⟩
theorem Zf.Zj{B:Nat}{h h':Hp}(a:Zf B h h'){b:Nat}(hb:B<=b)(o:Obj):Zf B h (h'.setIfInBounds b o):=a.trans (Zf.set hb o)
@[go_sem] theorem Zcj{K:A->Hp->Prop}{h:Hp}{a:Option Addr}{n cap b:Nat}:Pw a n cap b (D 0) K h=K (J a b cap) h:=by
 have e:(if cap=0 then a else a.map (·.add (0*n)))=a:=by
  split
  .rfl
  .rw[Nat.zero_mul];cases a<;>simp[Addr.add]
 simp only[Pw,e,Nat.sub_zero]
theorem Sl.Pb{h:Hp}{p:Option Addr}{k c:Nat}{cs:List A}(s:Sl 1 h (J p k c) k cs){m:Nat}(hm:m<=k)(c':Nat):Sl 1 h (J p m c') m (cs.take m):=by
 obtain⟨p',cap,hv,hl,hc⟩:=s;simp only[Value.slice.injEq]at hv;obtain⟨rfl,_,rfl⟩:=hv;refine⟨p,c',rfl,aac,fun Ys=>?_⟩;obtain⟨b,o,rfl,YR⟩:=hc (by intro e;subst e;simp at Ys);refine⟨b,o,rfl,fun i hi=>?_⟩;have Av:i<(G cs):=by rw[ao]at hi;omega
 rw[YR i Av];simp
theorem Bs.Pb{h:Hp}{p:Option Addr}{c:Nat}{l:List Nat}(s:Bs h (J p (G l) c) l){m:Nat}(hm:m<=(G l))(c':Nat):Bs h (J p m c') (l.take m):=by
 have:=s.sl.Pb hm c';rw[<-List.map_take]at this;exact⟨by rw[ao,Nat.min_eq_left hm];exact this,fun x hx=>s.byte x (List.mem_of_mem_take hx)⟩
attribute [go_sem] Nat.sub_zero
theorem Yd.open{B:Nat}{E:Q}{h:Hp}{v:A}{l:List Nat}(s:Yd B E h v l):∃p c,v=J p (G l) c/\(G l)<=c:=by
 rcases s.Zy with⟨⟨p,rfl⟩,hm,_⟩|⟨b,cap,Zx,_,rfl,_,_,_,hc⟩
 .exact⟨p,0,by rw[hm],gX⟩
 .exact⟨_,cap,rfl,hc⟩
def Sn:A->Prop
 | J _ m c=>m<=c
 | _=>True
theorem Yd.cap{B:Nat}{E:Q}{h:Hp}{v:A}{l:List Nat}(s:Yd B E h v l):Sn v:=by
 obtain⟨p,c,rfl,hc⟩:=s.open;exact hc
theorem Zf.pp{B:Nat}{h:Hp}(hB:B<=h.size)(a b:Obj):Zf B (h.push a) (h.push b):=
 ⟨Dq,fun k hk=>by rw[Y,Y,if_neg gX,if_neg gX]⟩
end Go.V

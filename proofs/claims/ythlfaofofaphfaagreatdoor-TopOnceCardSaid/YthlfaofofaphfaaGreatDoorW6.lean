/- Part W6. -/
import Derived.Test.YthlfaofofaphfaaGreatDoorW4
open Go.Value renaming slice→J,pointer→U
open Go.Obj renaming cells→S
open List renaming length→G,size_toArray→ae,length_take→ag
open Option renaming bind_some→O,map_some→ab,some→D,none→M
open Array renaming getElem?_setIfInBounds→L,getElem?_push→W,getD_eq_getD_getElem?→Y
open Go renaming Value→A,TypeId→Q,Operand→Z,Program→aa
namespace Go.V
set_option linter.unusedVariables false
set_option linter.unusedSimpArgs false
variable{t:Q}{x:Z}
section
variable {P:aa} {T:World} {K:A->Hp->Prop} {F:Env} {h:Hp} {ty:Q}
def aJ(B:Nat)(h0:Hp)(s:Option Bool)(n:Option Nat)(p:A)(C:A->Prop):Prop:=
 match p with
 | U (D a)=>if a.block<B then (match s,n with
  | some false,_=>qR (hc h0 a) C
  | some true,D n=>qR ((rd h0 a n).map fun l=>.agg l.toArray) C
  | _,_=>False) else False
 | _=>False
def Te(P:aa)(T:World)(B:Nat)(h0:Hp)(op:Op)(ty:Q)(C:A->Prop)(F:Env):Prop:=
 match op with
 | .load t x=>aJ B h0 (ta P t) (tn P t) (ev F x) C
 | op=>∃v,(∀h',Sf P T op ty (O3 v h') F h')/\ap C v
def iB(P:aa)(T:World)(ops:List Oper)(B:Nat)(h0:Hp)(N:Env->Hp->Prop):List (Nat × Bool × Oper)->Env->Hp->Prop
 | [],F,h=>N F h
 | (_,true,⟨d,op,ty,_,_,M⟩) :: l,F,h=>Te P T B h0 op ty (fun v=>iB P T ops B h0 N l (YD F d v) h) F
 | (_,false,⟨d,op,ty,_,_,M⟩) :: l,F,h=>Sf P T op ty (fun v h'=>Zj B h0 h'/\iB P T ops B h0 N l (YD F d v) h') F h
 | (_,true,⟨d,op,ty,_,_,D (j,b)⟩) :: l,F,h=>JO (Ww ops F j) b (Te P T B h0 op ty (fun v=>iB P T ops B h0 N l (YD F d v) h) F) (iB P T ops B h0 N l (YD F d undef) h)
 | (_,false,⟨d,op,ty,_,_,D (j,b)⟩) :: l,F,h=>JO (Ww ops F j) b (Sf P T op ty (fun v h'=>Zj B h0 h'/\iB P T ops B h0 N l (YD F d v) h') F h) (iB P T ops B h0 N l (YD F d undef) h)
theorem Q3{B:Nat}{h0 h':Hp}(b:Zj B h0 h'){a:Addr}(ha:a.block<B)(n:Nat):rd h' a n=rd h0 a n:=by unfold rd;rw[b.block _ ha]
theorem HH{c p:Prop}[Decidable c]:(if c then p else False)=(c/\p):=by
 by_cases hc:c<;>simp[hc]
theorem Tf{B:Nat}{h0:Hp}{op:Op}{C:A->Prop}(H:Te P T B h0 op ty C F):∃v,(∀h',Zj B h0 h'->Sf P T op ty (fun v' Kw=>v'=v/\Kw=h') F h')/\C v:=by
 unfold Te at H;split at H
 .rename_i t x;unfold aJ at H;split at H
  .rename_i a ha;rw[HH]at H;obtain⟨hb,H⟩:=H;split at H
   .rename_i hs;unfold qR at H;split at H
    .rename_i v hv;refine⟨v,fun h' Bj=>?_,H⟩;show La (ta P t) (tn P t) (ev F x) _ h';rw[hs,ha];rw[DG,Bj.hc hb,hv];exact⟨rfl,rfl⟩
    .exact H.elim
   .rename_i n hs hn;unfold qR at H;split at H
    .rename_i v hv;refine⟨v,fun h' Bj=>?_,H⟩;show La (ta P t) (tn P t) (ev F x) _ h';rw[hs,hn,ha];rw[GH,Q3 Bj hb]
     cases hr:rd h0 a n with
     | none=>rw[hr]at hv;cases hv
     | some l=>
      rw[hr]at hv;simp only[ab,Option.some.injEq]at hv;subst hv;exact⟨rfl,rfl⟩
    .exact H.elim
   .exact H.elim
  .exact H.elim
 .obtain⟨v,hv,hc⟩:=H;exact⟨v,fun h' _=>hv h',hc⟩
theorem Qz{ops:List Oper}{B:Nat}{h0:Hp}{N:Env->Hp->Prop}:∀(l:List (Nat × Bool × Oper)) (F:Env) (h:Hp),iB P T ops B h0 N l F h->MZ P T ops.toArray (fun h'=>Zj B h0 h') N l F h
 | [],F,h,H=>H
 | (i,true,⟨d,op,ty,pos,Vi,M⟩) :: l,F,h,H=>by
  show (if YK ops.toArray _ F=true then _ else _);rw[if_pos (by rfl)];obtain⟨v,hv,H⟩:=Tf H;exact⟨v,fun h' hs=>QO (hv h' hs),Qz l _ _ H⟩
 | (i,false,⟨d,op,ty,pos,Vi,M⟩) :: l,F,h,H=>by
  show (if YK ops.toArray _ F=true then _ else _);rw[if_pos (by rfl)];exact UC (fun v h' q=>⟨q.1,Qz l _ _ q.2⟩) H
 | (i,true,⟨d,op,ty,pos,Vi,D (j,b)⟩) :: l,F,h,H=>by
  show (if YK ops.toArray _ F=true then _ else _);rcases XQ ops F d op pos Vi j b H with⟨hw,H⟩|⟨hw,H⟩
  .rw[if_pos hw];obtain⟨v,hv,H⟩:=Tf H;exact⟨v,fun h' hs=>QO (hv h' hs),Qz l _ _ H⟩
  .rw[hw,if_neg IQ];exact Qz l _ _ H
 | (i,false,⟨d,op,ty,pos,Vi,D (j,b)⟩) :: l,F,h,H=>by
  show (if YK ops.toArray _ F=true then _ else _);rcases XQ ops F d op pos Vi j b H with⟨hw,H⟩|⟨hw,H⟩
  .rw[if_pos hw];exact UC (fun v h' q=>⟨q.1,Qz l _ _ q.2⟩) H
  .rw[hw,if_neg IQ];exact Qz l _ _ H
def VX(ops:List Oper):List (Nat × Bool)->List (Nat × Bool × Oper)
 | []=>[]
 | (i,q) :: l=>(match nth ops i with|some o=>(i,q,o)|none=>(i,q,default)) :: VX ops l
theorem VS.b{n:Nat}{N:Env->Hp->Prop}{X:Nat->Env->Hp->Prop}{R:Env->Hp->Prop}{id:Nat}{ops:List Oper}(B:Nat)(l:List (Nat × Bool))(hm:P.follows .mixedOrders=true)(Um:Ra n ops.toArray l=true)(H:iB P T ops B h N (VX ops l) F h):VS P n T (.region id ops.toArray true) N X R F h:=by
 refine VS.held (fun h'=>Zj B h h') l hm Um (Zj.refl _ _) ?_;have e:VA ops.toArray l=VX ops l:=by
  unfold VA;have:∀l:List (Nat × Bool),(l.map fun (i,q)=>(i,q,ops.toArray.getD i default))=VX ops l:=by
   intro l
   induction l with
   | nil=>rfl
   | cons x l ih=>
    obtain⟨i,q⟩:=x;simp only[List.map_cons,VX,ih]
    congr 1
    rw[YU]
    cases hx:ops[i]? with
    | none=>simp[Y,hx]
    | some o=>simp[Y,hx]
  exact this l
 rw[e];exact Qz _ _ _ H
def hK(P:aa)(T:World)(ops:List Oper)(B:Nat)(h0:Hp)(N:Env->Hp->Prop)(l:List (Nat × Bool × Oper))(F:Env)(d:Option Tmp)(h:Hp):A->Prop:=fun v=>iB P T ops B h0 N l (YD F d v) h
def hKs(P:aa)(T:World)(ops:List Oper)(B:Nat)(h0:Hp)(N:Env->Hp->Prop)(l:List (Nat × Bool × Oper))(F:Env)(d:Option Tmp):A->Hp->Prop:=fun v h'=>Zj B h0 h'/\iB P T ops B h0 N l (YD F d v) h'
section
variable {ops:List Oper} {l:List (Nat × Bool × Oper)} {B:Nat} {h0:Hp} {N:Env->Hp->Prop} {d:Option Tmp} {op:Op} {pos:String} {Vi:Array Edge} {i j:Nat} {b c:Bool} {C:A->Prop}
@[go_sem] theorem Zof:iB P T ops B h0 N [] F h=N F h:=rfl
@[go_sem] theorem ZxG:iB P T ops B h0 N ((i,true,⟨d,op,ty,pos,Vi,M⟩) :: l) F h=Te P T B h0 op ty (hK P T ops B h0 N l F d h) F:=rfl
@[go_sem] theorem ZxH:iB P T ops B h0 N ((i,false,⟨d,op,ty,pos,Vi,M⟩) :: l) F h=Sf P T op ty (hKs P T ops B h0 N l F d) F h:=rfl
@[go_sem] theorem Zrq{v:A}:hK P T ops B h0 N l F d h v=iB P T ops B h0 N l (YD F d v) h:=rfl
@[go_sem] theorem Zog{v:A}:hKs P T ops B h0 N l F d v h=(Zj B h0 h/\iB P T ops B h0 N l (YD F d v) h):=rfl
@[go_sem] theorem Zfl:VX ops []=[]:=rfl
def inO(ops:List Oper)(i:Nat)(q:Bool)(o:Option Oper)(l:List (Nat × Bool)):List (Nat × Bool × Oper):=(match o with|some o=>(i,q,o)|none=>(i,q,default)) :: VX ops l
@[go_sem] theorem Zc4{q:Bool}{l:List (Nat × Bool)}:VX ops ((i,q) :: l)=inO ops i q (nth ops i) l:=rfl
@[go_sem] theorem Zkr{q:Bool}{o:Oper}{l:List (Nat × Bool)}:inO ops i q (D o) l=(i,q,o) :: VX ops l:=rfl
@[go_sem] theorem hEq{v:A}:(∃u,(∀h':Hp,O3 u h' v h')/\ap C u)=C v:=by
 apply propext;constructor
 .rintro⟨u,hu,H⟩;obtain⟨e,_⟩:=hu #[];subst e;exact H
 .intro H;exact⟨v,fun _=>⟨rfl,rfl⟩,H⟩
@[go_sem] theorem Zks:Te P T B h0 (.load t x) ty C F=aJ B h0 (ta P t) (tn P t) (ev F x) C:=rfl
@[go_sem] theorem Zjo{n:Option Nat}{a:Addr}:aJ B h0 (D false) n (U (D a)) C=if a.block<B then qR (hc h0 a) C else False:=rfl
@[go_sem] theorem ZgI{n:Nat}{a:Addr}:aJ B h0 (D true) (D n) (U (D a)) C=if a.block<B then qR ((rd h0 a n).map fun l=>.agg l.toArray) C else False:=rfl
@[go_sem] theorem Zkt:Te P T B h0 (.move x) ty C F=C (ev F x):=hEq
@[go_sem] theorem ZgJ:Te P T B h0 (.assign x) ty C F=C (ev F x):=hEq
@[go_sem] theorem Zjp{i:Nat}:Te P T B h0 (.fieldAddr t x i) ty C F = ∃v,(∀h':Hp,Mk (tf P t i) (ev F x) (O3 v h') h')/\ap C v:=rfl
@[go_sem] theorem Zrr{i:Z}:Te P T B h0 (.indexAddr t x i) ty C F = ∃v,(∀h':Hp,vIx (Xx P t) (QY P t) (tn P) (ev F x) (ev F i) (O3 v h') h')/\ap C v:=rfl
@[go_sem] theorem Zku{y z:Z}:Te P T B h0 (.pick x y z) ty C F = ∃v,(∀h':Hp,DC (ev F x) (ev F y) (ev F z) (O3 v h') h')/\ap C v:=rfl
@[go_sem] theorem Zoh:Te P T B h0 (.nilCheck x) ty C F = ∃v,(∀h':Hp,gu (ev F x) (O3 v h') h')/\ap C v:=rfl
@[go_sem] theorem Zoi{op:BinOp}{t':Q}{y:Z}:Te P T B h0 (.binOp op t x y t') ty C F = ∃v,(∀h':Hp,XP P op t x y (ev F x) (ev F y) (O3 v h') h')/\ap C v:=rfl
@[go_sem] theorem Zrs{op:UnOp}:Te P T B h0 (.unOp op t x) ty C F = ∃v,(∀h':Hp,vUn P op (ev F x) (O3 v h') h')/\ap C v:=rfl
@[go_sem] theorem Zkv{s:Q}:Te P T B h0 (.convert s t x) ty C F = ∃v,(∀h':Hp,Lb P s t (ev F x) (O3 v h') h')/\ap C v:=rfl
@[go_sem] theorem Zfm{i:Nat}:Te P T B h0 (.extract x i) ty C F = ∃v,(∀h':Hp,Vg (ev F x) i (O3 v h') h')/\ap C v:=rfl
@[go_sem] theorem Zoj{lo hi mx:Option Z}:Te P T B h0 (.slice t x lo hi mx) ty C F = ∃v,(∀h':Hp,EP (Xx P t) (QY P t) (Vf P t) (tn P) (ev F x) (my F lo) (my F hi) (my F mx) (O3 v h') h')/\ap C v:=rfl
@[go_sem] theorem Zjq{parts:Array (Nat × Z)}:Te P T B h0 (.build t parts) ty C F = ∃v,(∀h':Hp,Ml (tz P t) (NS P t) (Xx P t) (tn P) (gv F parts.toList) (O3 v h') h')/\ap C v:=rfl
@[go_sem] theorem Zrt{b:Builtin}{args:Array Z}{ts:Array Q}:Te P T B h0 (.call ⟨.builtin b,args,ts⟩) ty C F =
  ∃v,(∀h':Hp,PZ P T b ts ty (args.map fun|.const _=>true|_=>false) (pG F args.toList) (O3 v h') h')/\ap C v:=rfl
end
@[go_sem] theorem Zru{l:List A}{b b' o:Nat}:hc (h.setIfInBounds b (S l.toArray t)) ⟨b',o,M⟩=if b'=b then (if b<h.size then nth l o else M) else hc h ⟨b',o,M⟩:=by
 unfold hc;simp only[L];by_cases hb:b=b'
 .subst hb;by_cases hs:b<h.size
  .simp[hs,YU]
  .simp[hs]
 .have Qi:¬b'=b:=fun e=>hb e.symm;simp[hb,Qi]
@[go_sem] theorem Zrv{l:List A}{b b' o n:Nat}:rd (h.setIfInBounds b (S l.toArray t)) ⟨b',o,M⟩ n=if b'=b then (if b<h.size then (if o+n<=(G l) then D ((l.drop o).take n) else M) else M) else rd h ⟨b',o,M⟩ n:=by
 unfold rd;simp only[L];by_cases hb:b=b'
 .subst hb;by_cases hs:b<h.size
  .simp[hs]
  .simp[hs]
 .have Qi:¬b'=b:=fun e=>hb e.symm;simp[hb,Qi]
attribute [go_sem] Array.size_setIfInBounds
theorem Ye{l:List A}{b:Nat}(hr:h[b]? = D (S l.toArray t))(o:Nat)(vs:List A):wr h ⟨b,o,M⟩ vs=if o+(G vs)<=(G l)/\vs.all YE=true then D (h.setIfInBounds b (S (Xd l o vs).toArray t)) else M:=by
 unfold wr;simp only[hr,ae,Nat.le_refl,true_and]
theorem Xj{l:List A}{b:Nat}(hr:h[b]? = D (S l.toArray t))(o:Nat)(v:A):QX h ⟨b,o,M⟩ v=if o<(G l)/\YE v=true then D (h.setIfInBounds b (S (l.set o v).toArray t)) else M:=by
 unfold QX;simp only[hr,ae,Nat.le_refl,true_and,List.setIfInBounds_toArray]
theorem Zj.get{B:Nat}{h0 h1:Hp}(b:Zj B h0 h1){k:Nat}{o:Obj}(hk:k<B)(h:h0[k]? = D o):h1[k]? = D o:=(b.block k hk).trans h
theorem Zc{o:Obj}:(h.push o)[h.size]? = D o:=IQ
theorem ZJ{o:Obj}{b:Nat}(hb:b<h.size):(h.push o)[b]? = h[b]?:=by rw[W,if_neg pA]
end
section
variable {P:aa} {h:Hp}
def rvF(s:Option Bool)(n:Option Nat)(a:Addr)(h:Hp):Option A:=
 match s,n with
 | some false,_=>hc h a
 | some true,D n=>(rd h a n).map fun l=>.agg l.toArray
 | _,_=>M
@[go_sem] theorem Zkw{n:Nat}{a:Addr}:rvF (D true) (D n) a h=(rd h a n).map fun l=>.agg l.toArray:=rfl
theorem aK{b:Bool}(hb:ta P t=D b):hr P (isAgg t) h=D b:=by
 unfold ta at hb
 cases hi:P.underlying t with
 | none=>rw[hi]at hb;cases hb
 | some d=>
  rw[hi]at hb;simp only[ab,Option.some.injEq]at hb;subst hb;unfold isAgg underlying;rw[QV,QV];show ((hr P (match P.underlying t with|some d=>pure d|none=>stuck "no such type") h).bind fun a=>hr P (match a with|.struct _=>pure true|.array _ _=>pure true|_=>pure false) h)=_
  rw[hi]
  cases d<;>rfl
theorem qB{n:Nat}(hn:tn P t=D n):hr P (sizeOf t) h=D n:=by
 unfold tn at hn
 cases hi:P.info? t with
 | none=>rw[hi]at hn;cases hn
 | some i=>
  rw[hi]at hn;simp only[ab,Option.some.injEq]at hn;subst hn;unfold sizeOf typeInfo;rw[QV,QV];show ((hr P (match P.info? t with|some d=>pure d|none=>stuck "no such type") h).bind fun a=>hr P (pure a.size) h)=_
  rw[hi];rfl
theorem Bk(a:Addr)(c:List A):∀(n i:Nat) (acc:Array A),(∀j,j<n->hc h (a.add (i+j))=D (c.getD j undef))->n=(G c)->hr P (loadCellsFrom a i n acc) h=D (acc++c.toArray):=by
 induction c with
 | nil=>intro n i acc _ hn;subst hn;simp[loadCellsFrom,pure,hr]
 | cons v c ih=>
  intro n i acc hj hn;subst hn;show hr P (load (a.add i) >>= fun v=>loadCellsFrom a (i+1) (G c) (acc.push v)) h=_;rw[QV];have e:hr P (load (a.add i)) h=D v:=by
   have:=hj 0 IQ;rw[Nat.add_zero]at this;show (hc h (a.add i)).bind _=_;rw[this];rfl
  rw[e,O,ih _ (i+1) _ (fun j gz=>?_) rfl]
  .simp
  .have:=hj (j+1) VL;have e:i+(j+1)=i+1+j:=pA;rw[e]at this
   simpa using this
@[go_sem] theorem iC{a:Addr}(hs:(rvF (ta P t) (tn P t) a h).isSome=true):M3 P t (U (D a)) h=rvF (ta P t) (tn P t) a h:=by
 unfold M3;show hr P (loadVar t a) h=_;unfold loadVar;rw[QV];unfold rvF at hs ⊢;split at hs
 .rename_i ht;rw[aK ht,O,if_neg IQ];show (hc h a).bind (fun v=>D v)=hc h a
  cases hc h a<;>rfl
 .rename_i n ht hn;rw[aK ht,O,if_pos rfl,QV,qB hn,O,QV]
  cases hl:rd h a n with
  | none=>rw[hl]at hs;cases hs
  | some l=>
   unfold rd at hl;split at hl
   .rename_i c e fr hb;split at hl
    .rename_i Le;obtain⟨h1,h2⟩:=Le;simp only[Option.some.injEq]at hl;subst hl;have hlen:((c.toList.drop a.off).take n).length=n:=VL;have:=Bk (P:=P) (h:=h) a ((c.toList.drop a.off).take n) n 0 #[] (fun j hj=>by
      rw[O0 a _ h1];unfold hc;rw[hb];simp only[Option.isSome_none,Bool.false_eq_true,if_false];rw[List.getD_eq_getElem?_getD,List.getElem?_take,if_pos hj,List.getElem?_drop];have e:a.off+(0+j)=a.off+j:=pA;rw[e];simp;rw[Array.getElem?_eq_getElem pA];rfl) hlen.symm
     unfold loadCells;rw[this,O];show D (Value.agg (#[]++_))=_;simp
    .cases hl
   .cases hl
 .cases hs
end
theorem UO.Ya{B:Nat}{E:Q}{n:Nat}{h:Hp}{v:A}{m:Nat}{cs:List A}(s:UO B E n h v m cs){b:Nat}(hb:b<B)(o:Obj):UO B E n (h.setIfInBounds b o) v m cs:=by
 rcases s with s|⟨b',cap,ZG,hB,rfl,hg,r⟩
 .exact .inl s
 .exact .inr ⟨b',cap,ZG,hB,rfl,by rw[L,if_neg pA];exact hg,r⟩
theorem YB.Ya{B:Nat}{E:Q}{h:Hp}{v:A}{l:List Nat}(s:YB B E h v l){b:Nat}(hb:b<B)(o:Obj):YB B E (h.setIfInBounds b o) v l:=⟨s.Zq.Ya hb o,s.byte⟩
theorem Zj.Zt{B:Nat}{h h':Hp}(a:Zj B h h'){b:Nat}(hb:B<=b)(o:Obj):Zj B h (h'.setIfInBounds b o):=a.trans (Zj.set hb o)
@[go_sem] theorem ZgL{K:A->Hp->Prop}{h:Hp}{a:Option Addr}{n cap b:Nat}:NU a n cap b (D 0) K h=K (J a b cap) h:=by
 have e:(if cap=0 then a else a.map (·.add (0*n)))=a:=by
  split
  .rfl
  .rw[Nat.zero_mul];cases a<;>simp[Addr.add]
 simp only[NU,e,Nat.sub_zero]
theorem Sl.Mq{h:Hp}{p:Option Addr}{k c:Nat}{cs:List A}(s:Sl 1 h (J p k c) k cs){m:Nat}(hm:m<=k)(c':Nat):Sl 1 h (J p m c') m (cs.take m):=by
 obtain⟨p',cap,hv,hl,hc⟩:=s;simp only[Value.slice.injEq]at hv;obtain⟨rfl,_,rfl⟩:=hv;refine⟨p,c',rfl,aad,fun Y7=>?_⟩;obtain⟨b,o,rfl,XL⟩:=hc (by intro e;subst e;simp at Y7);refine⟨b,o,rfl,fun i hi=>?_⟩;have mF:i<(G cs):=by rw[ag]at hi;omega
 rw[XL i mF];simp
theorem Bs.Mq{h:Hp}{p:Option Addr}{c:Nat}{l:List Nat}(s:Bs h (J p (G l) c) l){m:Nat}(hm:m<=(G l))(c':Nat):Bs h (J p m c') (l.take m):=by
 have:=s.sl.Mq hm c';rw[<-List.map_take]at this;exact⟨by rw[ag,Nat.min_eq_left hm];exact this,fun x hx=>s.byte x (List.mem_of_mem_take hx)⟩
attribute [go_sem] Nat.sub_zero
theorem YB.open{B:Nat}{E:Q}{h:Hp}{v:A}{l:List Nat}(s:YB B E h v l):∃p c,v=J p (G l) c/\(G l)<=c:=by
 rcases s.Zq with⟨⟨p,rfl⟩,hm,_⟩|⟨b,cap,ZG,_,rfl,_,_,_,hc⟩
 .exact⟨p,0,by rw[hm],pA⟩
 .exact⟨_,cap,rfl,hc⟩
def RY:A->Prop
 | J _ m c=>m<=c
 | _=>True
theorem YB.cap{B:Nat}{E:Q}{h:Hp}{v:A}{l:List Nat}(s:YB B E h v l):RY v:=by
 obtain⟨p,c,rfl,hc⟩:=s.open;exact hc
theorem Zj.pp{B:Nat}{h:Hp}(hB:B<=h.size)(a b:Obj):Zj B (h.push a) (h.push b):=
 ⟨IQ,fun k hk=>by rw[W,W,if_neg pA,if_neg pA]⟩
end Go.V

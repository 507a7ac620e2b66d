/- Part W6. -/
import Derived.Test.YtnhfdnlcpdbjlaaGreatDoorW4
open Go.Value renaming slice→G,pointer→S
open Go.Obj renaming cells→Q
open List renaming length→D,size_toArray→ak,length_take→al
open Option renaming bind_some→M,map_some→aa,some→A,none→L
open Array renaming getElem?_setIfInBounds→J,getElem?_push→U,getD_eq_getD_getElem?→W
open Go renaming Value→w,TypeId→O,Operand→Y,Program→Z
namespace Go.V
set_option linter.all false
variable{t:O}{x:Y}
section
variable {P:Z} {T:World} {K:w->Hp->Prop} {F:Env} {h:Hp} {ty:O}
def Ar(B:Nat)(h0:Hp)(s:Option Bool)(n:Option Nat)(p:w)(C:w->Prop):Prop:=
 match p with
 | S (A a)=>if a.block<B then (match s,n with
  | some false,_=>qR (hc h0 a) C
  | some true,A n=>qR ((rd h0 a n).map fun l=>.agg l.toArray) C
  | _,_=>False) else False
 | _=>False
def Rp(P:Z)(T:World)(B:Nat)(h0:Hp)(op:Op)(ty:O)(C:w->Prop)(F:Env):Prop:=
 match op with
 | .load t x=>Ar B h0 (ta P t) (tn P t) (ev F x) C
 | op=>∃v,(∀h',TL P T op ty (OC v h') F h')/\ap C v
def fW(P:Z)(T:World)(ops:List Oper)(B:Nat)(h0:Hp)(N:Env->Hp->Prop):List (Nat × Bool × Oper)->Env->Hp->Prop
 | [],F,h=>N F h
 | (_,true,⟨d,op,ty,_,_,L⟩) :: l,F,h=>Rp P T B h0 op ty (fun v=>fW P T ops B h0 N l (YG F d v) h) F
 | (_,false,⟨d,op,ty,_,_,L⟩) :: l,F,h=>TL P T op ty (fun v h'=>Zk B h0 h'/\fW P T ops B h0 N l (YG F d v) h') F h
 | (_,true,⟨d,op,ty,_,_,A (j,b)⟩) :: l,F,h=>JD (U2 ops F j) b (Rp P T B h0 op ty (fun v=>fW P T ops B h0 N l (YG F d v) h) F) (fW P T ops B h0 N l (YG F d undef) h)
 | (_,false,⟨d,op,ty,_,_,A (j,b)⟩) :: l,F,h=>JD (U2 ops F j) b (TL P T op ty (fun v h'=>Zk B h0 h'/\fW P T ops B h0 N l (YG F d v) h') F h) (fW P T ops B h0 N l (YG F d undef) h)
theorem Q9{B:Nat}{h0 h':Hp}(b:Zk B h0 h'){a:Addr}(ha:a.block<B)(n:Nat):rd h' a n=rd h0 a n:=by unfold rd;rw[b.block _ ha]
theorem IL{c p:Prop}[Decidable c]:(if c then p else False)=(c/\p):=by
 by_cases hc:c<;>simp[hc]
theorem OG{B:Nat}{h0:Hp}{op:Op}{C:w->Prop}(H:Rp P T B h0 op ty C F):∃v,(∀h',Zk B h0 h'->TL P T op ty (fun v' II=>v'=v/\II=h') F h')/\C v:=by
 unfold Rp at H;split at H
 .rename_i t x;unfold Ar at H;split at H
  .rename_i a ha;rw[IL]at H;obtain⟨hb,H⟩:=H;split at H
   .rename_i hs;unfold qR at H;split at H
    .rename_i v hv;refine⟨v,fun h' Cd=>?_,H⟩;show MA (ta P t) (tn P t) (ev F x) _ h';rw[hs,ha];rw[EI,Cd.hc hb,hv];exact⟨rfl,rfl⟩
    .exact H.elim
   .rename_i n hs hn;unfold qR at H;split at H
    .rename_i v hv;refine⟨v,fun h' Cd=>?_,H⟩;show MA (ta P t) (tn P t) (ev F x) _ h';rw[hs,hn,ha];rw[HI,Q9 Cd hb]
     cases hr:rd h0 a n with
     | none=>rw[hr]at hv;cases hv
     | some l=>
      rw[hr]at hv;simp only[aa,Option.some.injEq]at hv;subst hv;exact⟨rfl,rfl⟩
    .exact H.elim
   .exact H.elim
  .exact H.elim
 .obtain⟨v,hv,hc⟩:=H;exact⟨v,fun h' _=>hv h',hc⟩
theorem Qf{ops:List Oper}{B:Nat}{h0:Hp}{N:Env->Hp->Prop}:∀(l:List (Nat × Bool × Oper)) (F:Env) (h:Hp),fW P T ops B h0 N l F h->Mx P T ops.toArray (fun h'=>Zk B h0 h') N l F h
 | [],F,h,H=>H
 | (i,true,⟨d,op,ty,pos,Vc,L⟩) :: l,F,h,H=>by
  show (if YW ops.toArray _ F=true then _ else _);rw[if_pos (by rfl)];obtain⟨v,hv,H⟩:=OG H;exact⟨v,fun h' hs=>Ux (hv h' hs),Qf l _ _ H⟩
 | (i,false,⟨d,op,ty,pos,Vc,L⟩) :: l,F,h,H=>by
  show (if YW ops.toArray _ F=true then _ else _);rw[if_pos (by rfl)];exact Uh (fun v h' q=>⟨q.1,Qf l _ _ q.2⟩) H
 | (i,true,⟨d,op,ty,pos,Vc,A (j,b)⟩) :: l,F,h,H=>by
  show (if YW ops.toArray _ F=true then _ else _);rcases Jb ops F d op pos Vc j b H with⟨hw,H⟩|⟨hw,H⟩
  .rw[if_pos hw];obtain⟨v,hv,H⟩:=OG H;exact⟨v,fun h' hs=>Ux (hv h' hs),Qf l _ _ H⟩
  .rw[hw,if_neg sW];exact Qf l _ _ H
 | (i,false,⟨d,op,ty,pos,Vc,A (j,b)⟩) :: l,F,h,H=>by
  show (if YW ops.toArray _ F=true then _ else _);rcases Jb ops F d op pos Vc j b H with⟨hw,H⟩|⟨hw,H⟩
  .rw[if_pos hw];exact Uh (fun v h' q=>⟨q.1,Qf l _ _ q.2⟩) H
  .rw[hw,if_neg sW];exact Qf l _ _ H
def Vy(ops:List Oper):List (Nat × Bool)->List (Nat × Bool × Oper)
 | []=>[]
 | (i,q) :: l=>(match nth ops i with|some o=>(i,q,o)|none=>(i,q,default)) :: Vy ops l
theorem VS.b{n:Nat}{N:Env->Hp->Prop}{X:Nat->Env->Hp->Prop}{R:Env->Hp->Prop}{id:Nat}{ops:List Oper}(B:Nat)(l:List (Nat × Bool))(hm:P.follows .mixedOrders=true)(QZ:SD n ops.toArray l=true)(H:fW P T ops B h N (Vy ops l) F h):VS P n T (.region id ops.toArray true) N X R F h:=by
 refine VS.held (fun h'=>Zk B h h') l hm QZ (Zk.refl _ _) ?_;have e:WZ ops.toArray l=Vy ops l:=by
  unfold WZ;have:∀l:List (Nat × Bool),(l.map fun (i,q)=>(i,q,ops.toArray.getD i default))=Vy ops l:=by
   intro l
   induction l with
   | nil=>rfl
   | cons x l ih=>
    obtain⟨i,q⟩:=x;simp only[List.map_cons,Vy,ih]
    congr 1
    rw[Y7]
    cases hx:ops[i]? with
    | none=>simp[W,hx]
    | some o=>simp[W,hx]
  exact this l
 rw[e];exact Qf _ _ _ H
def hK(P:Z)(T:World)(ops:List Oper)(B:Nat)(h0:Hp)(N:Env->Hp->Prop)(l:List (Nat × Bool × Oper))(F:Env)(d:Option Tmp)(h:Hp):w->Prop:=fun v=>fW P T ops B h0 N l (YG F d v) h
def hKs(P:Z)(T:World)(ops:List Oper)(B:Nat)(h0:Hp)(N:Env->Hp->Prop)(l:List (Nat × Bool × Oper))(F:Env)(d:Option Tmp):w->Hp->Prop:=fun v h'=>Zk B h0 h'/\fW P T ops B h0 N l (YG F d v) h'
section
variable {ops:List Oper} {l:List (Nat × Bool × Oper)} {B:Nat} {h0:Hp} {N:Env->Hp->Prop} {d:Option Tmp} {op:Op} {pos:String} {Vc:Array Edge} {i j:Nat} {b c:Bool} {C:w->Prop}
@[go_sem] theorem Zm9:fW P T ops B h0 N [] F h=N F h:=rfl
@[go_sem] theorem Zwp:fW P T ops B h0 N ((i,true,⟨d,op,ty,pos,Vc,L⟩) :: l) F h=Rp P T B h0 op ty (hK P T ops B h0 N l F d h) F:=rfl
@[go_sem] theorem Zwq:fW P T ops B h0 N ((i,false,⟨d,op,ty,pos,Vc,L⟩) :: l) F h=TL P T op ty (hKs P T ops B h0 N l F d) F h:=rfl
@[go_sem] theorem ZpM{v:w}:hK P T ops B h0 N l F d h v=fW P T ops B h0 N l (YG F d v) h:=rfl
@[go_sem] theorem Zna{v:w}:hKs P T ops B h0 N l F d v h=(Zk B h0 h/\fW P T ops B h0 N l (YG F d v) h):=rfl
@[go_sem] theorem Zep:Vy ops []=[]:=rfl
def inO(ops:List Oper)(i:Nat)(q:Bool)(o:Option Oper)(l:List (Nat × Bool)):List (Nat × Bool × Oper):=(match o with|some o=>(i,q,o)|none=>(i,q,default)) :: Vy ops l
@[go_sem] theorem ZbW{q:Bool}{l:List (Nat × Bool)}:Vy ops ((i,q) :: l)=inO ops i q (nth ops i) l:=rfl
@[go_sem] theorem Zjg{q:Bool}{o:Oper}{l:List (Nat × Bool)}:inO ops i q (A o) l=(i,q,o) :: Vy ops l:=rfl
@[go_sem] theorem hEq{v:w}:(∃u,(∀h':Hp,OC u h' v h')/\ap C u)=C v:=by
 apply propext;constructor
 .rintro⟨u,hu,H⟩;obtain⟨e,_⟩:=hu #[];subst e;exact H
 .intro H;exact⟨v,fun _=>⟨rfl,rfl⟩,H⟩
@[go_sem] theorem Zjh:Rp P T B h0 (.load t x) ty C F=Ar B h0 (ta P t) (tn P t) (ev F x) C:=rfl
@[go_sem] theorem Zh8{n:Option Nat}{a:Addr}:Ar B h0 (A false) n (S (A a)) C=if a.block<B then qR (hc h0 a) C else False:=rfl
@[go_sem] theorem ZfD{n:Nat}{a:Addr}:Ar B h0 (A true) (A n) (S (A a)) C=if a.block<B then qR ((rd h0 a n).map fun l=>.agg l.toArray) C else False:=rfl
@[go_sem] theorem Zji:Rp P T B h0 (.move x) ty C F=C (ev F x):=hEq
@[go_sem] theorem ZfE:Rp P T B h0 (.assign x) ty C F=C (ev F x):=hEq
@[go_sem] theorem Zh9{i:Nat}:Rp P T B h0 (.fieldAddr t x i) ty C F = ∃v,(∀h':Hp,NH (tf P t i) (ev F x) (OC v h') h')/\ap C v:=rfl
@[go_sem] theorem ZpN{i:Y}:Rp P T B h0 (.indexAddr t x i) ty C F = ∃v,(∀h':Hp,vIx (Xv P t) (QE P t) (tn P) (ev F x) (ev F i) (OC v h') h')/\ap C v:=rfl
@[go_sem] theorem Zjj{y z:Y}:Rp P T B h0 (.pick x y z) ty C F = ∃v,(∀h':Hp,EE (ev F x) (ev F y) (ev F z) (OC v h') h')/\ap C v:=rfl
@[go_sem] theorem Znb:Rp P T B h0 (.nilCheck x) ty C F = ∃v,(∀h':Hp,dZ (ev F x) (OC v h') h')/\ap C v:=rfl
@[go_sem] theorem Znc{op:BinOp}{t':O}{y:Y}:Rp P T B h0 (.binOp op t x y t') ty C F = ∃v,(∀h':Hp,XS P op t x y (ev F x) (ev F y) (OC v h') h')/\ap C v:=rfl
@[go_sem] theorem ZpO{op:UnOp}:Rp P T B h0 (.unOp op t x) ty C F = ∃v,(∀h':Hp,vUn P op (ev F x) (OC v h') h')/\ap C v:=rfl
@[go_sem] theorem Zjk{s:O}:Rp P T B h0 (.convert s t x) ty C F = ∃v,(∀h':Hp,MB P s t (ev F x) (OC v h') h')/\ap C v:=rfl
@[go_sem] theorem Zeq{i:Nat}:Rp P T B h0 (.extract x i) ty C F = ∃v,(∀h':Hp,WD (ev F x) i (OC v h') h')/\ap C v:=rfl
@[go_sem] theorem Znd{lo hi mx:Option Y}:Rp P T B h0 (.slice t x lo hi mx) ty C F = ∃v,(∀h':Hp,FY (Xv P t) (QE P t) (W0 P t) (tn P) (ev F x) (j7 F lo) (j7 F hi) (j7 F mx) (OC v h') h')/\ap C v:=rfl
@[go_sem] theorem Zia{parts:Array (Nat × Y)}:Rp P T B h0 (.build t parts) ty C F = ∃v,(∀h':Hp,NJ (tz P t) (NF P t) (Xv P t) (tn P) (d7 F parts.toList) (OC v h') h')/\ap C v:=rfl
@[go_sem] theorem ZpP{b:Builtin}{args:Array Y}{ts:Array O}:Rp P T B h0 (.call ⟨.builtin b,args,ts⟩) ty C F =
  ∃v,(∀h':Hp,Ps P T b ts ty (args.map fun|.const _=>true|_=>false) (mJ F args.toList) (OC v h') h')/\ap C v:=rfl
end
@[go_sem] theorem ZpQ{l:List w}{b b' o:Nat}:hc (h.setIfInBounds b (Q l.toArray t)) ⟨b',o,L⟩=if b'=b then (if b<h.size then nth l o else L) else hc h ⟨b',o,L⟩:=by
 unfold hc;simp only[J];by_cases hb:b=b'
 .subst hb;by_cases hs:b<h.size
  .simp[hs,Y7]
  .simp[hs]
 .have JU:¬b'=b:=fun e=>hb e.symm;simp[hb,JU]
@[go_sem] theorem ZpR{l:List w}{b b' o n:Nat}:rd (h.setIfInBounds b (Q l.toArray t)) ⟨b',o,L⟩ n=if b'=b then (if b<h.size then (if o+n<=(D l) then A ((l.drop o).take n) else L) else L) else rd h ⟨b',o,L⟩ n:=by
 unfold rd;simp only[J];by_cases hb:b=b'
 .subst hb;by_cases hs:b<h.size
  .simp[hs]
  .simp[hs]
 .have JU:¬b'=b:=fun e=>hb e.symm;simp[hb,JU]
attribute [go_sem] Array.size_setIfInBounds
theorem Yh{l:List w}{b:Nat}(hr:h[b]? = A (Q l.toArray t))(o:Nat)(vs:List w):wr h ⟨b,o,L⟩ vs=if o+(D vs)<=(D l)/\vs.all YN=true then A (h.setIfInBounds b (Q (Xd l o vs).toArray t)) else L:=by
 unfold wr;simp only[hr,ak,Nat.le_refl,true_and]
theorem Xk{l:List w}{b:Nat}(hr:h[b]? = A (Q l.toArray t))(o:Nat)(v:w):QF h ⟨b,o,L⟩ v=if o<(D l)/\YN v=true then A (h.setIfInBounds b (Q (l.set o v).toArray t)) else L:=by
 unfold QF;simp only[hr,ak,Nat.le_refl,true_and,List.setIfInBounds_toArray]
theorem Zk.get{B:Nat}{h0 h1:Hp}(b:Zk B h0 h1){k:Nat}{o:Obj}(hk:k<B)(h:h0[k]? = A o):h1[k]? = A o:=(b.block k hk).trans h
theorem Zd{o:Obj}:(h.push o)[h.size]? = A o:=sW
theorem ZF{o:Obj}{b:Nat}(hb:b<h.size):(h.push o)[b]? = h[b]?:=by rw[U,if_neg mD]
end
section
variable {P:Z} {h:Hp}
def rvF(s:Option Bool)(n:Option Nat)(a:Addr)(h:Hp):Option w:=
 match s,n with
 | some false,_=>hc h a
 | some true,A n=>(rd h a n).map fun l=>.agg l.toArray
 | _,_=>L
@[go_sem] theorem Zjl{n:Nat}{a:Addr}:rvF (A true) (A n) a h=(rd h a n).map fun l=>.agg l.toArray:=rfl
theorem As{b:Bool}(hb:ta P t=A b):hr P (isAgg t) h=A b:=by
 unfold ta at hb
 cases hi:P.underlying t with
 | none=>rw[hi]at hb;cases hb
 | some d=>
  rw[hi]at hb;simp only[aa,Option.some.injEq]at hb;subst hb;unfold isAgg underlying;rw[QB,QB];show ((hr P (match P.underlying t with|some d=>pure d|none=>stuck "no such type") h).bind fun a=>hr P (match a with|.struct _=>pure true|.array _ _=>pure true|_=>pure false) h)=_
  rw[hi]
  cases d<;>rfl
theorem nL{n:Nat}(hn:tn P t=A n):hr P (sizeOf t) h=A n:=by
 unfold tn at hn
 cases hi:P.info? t with
 | none=>rw[hi]at hn;cases hn
 | some i=>
  rw[hi]at hn;simp only[aa,Option.some.injEq]at hn;subst hn;unfold sizeOf typeInfo;rw[QB,QB];show ((hr P (match P.info? t with|some d=>pure d|none=>stuck "no such type") h).bind fun a=>hr P (pure a.size) h)=_
  rw[hi];rfl
theorem Ce(a:Addr)(c:List w):∀(n i:Nat) (acc:Array w),(∀j,j<n->hc h (a.add (i+j))=A (c.getD j undef))->n=(D c)->hr P (loadCellsFrom a i n acc) h=A (acc++c.toArray):=by
 induction c with
 | nil=>intro n i acc _ hn;subst hn;simp[loadCellsFrom,pure,hr]
 | cons v c ih=>
  intro n i acc hj hn;subst hn;show hr P (load (a.add i) >>= fun v=>loadCellsFrom a (i+1) (D c) (acc.push v)) h=_;rw[QB];have e:hr P (load (a.add i)) h=A v:=by
   have:=hj 0 sW;rw[Nat.add_zero]at this;show (hc h (a.add i)).bind _=_;rw[this];rfl
  rw[e,M,ih _ (i+1) _ (fun j eG=>?_) rfl]
  .simp
  .have:=hj (j+1) vI;have e:i+(j+1)=i+1+j:=mD;rw[e]at this
   simpa using this
@[go_sem] theorem fX{a:Addr}(hs:(rvF (ta P t) (tn P t) a h).isSome=true):My P t (S (A a)) h=rvF (ta P t) (tn P t) a h:=by
 unfold My;show hr P (loadVar t a) h=_;unfold loadVar;rw[QB];unfold rvF at hs ⊢;split at hs
 .rename_i ht;rw[As ht,M,if_neg sW];show (hc h a).bind (fun v=>A v)=hc h a
  cases hc h a<;>rfl
 .rename_i n ht hn;rw[As ht,M,if_pos rfl,QB,nL hn,M,QB]
  cases hl:rd h a n with
  | none=>rw[hl]at hs;cases hs
  | some l=>
   unfold rd at hl;split at hl
   .rename_i c e fr hb;split at hl
    .rename_i ME;obtain⟨h1,h2⟩:=ME;simp only[Option.some.injEq]at hl;subst hl;have hlen:((c.toList.drop a.off).take n).length=n:=vI;have:=Ce (P:=P) (h:=h) a ((c.toList.drop a.off).take n) n 0 #[] (fun j hj=>by
      rw[Oz a _ h1];unfold hc;rw[hb];simp only[Option.isSome_none,Bool.false_eq_true,if_false];rw[List.getD_eq_getElem?_getD,List.getElem?_take,if_pos hj,List.getElem?_drop];have e:a.off+(0+j)=a.off+j:=mD;rw[e];simp;rw[Array.getElem?_eq_getElem mD];rfl) hlen.symm
     unfold loadCells;rw[this,M];show A (Value.agg (#[]++_))=_;simp
    .cases hl
   .cases hl
 .cases hs
end
theorem UK.Yi{B:Nat}{E:O}{n:Nat}{h:Hp}{v:w}{m:Nat}{cs:List w}(s:UK B E n h v m cs){b:Nat}(hb:b<B)(o:Obj):UK B E n (h.setIfInBounds b o) v m cs:=by
 rcases s with s|⟨b',cap,ZE,hB,rfl,hg,r⟩
 .exact .inl s
 .exact .inr ⟨b',cap,ZE,hB,rfl,by rw[J,if_neg mD];exact hg,r⟩
theorem YB.Yi{B:Nat}{E:O}{h:Hp}{v:w}{l:List Nat}(s:YB B E h v l){b:Nat}(hb:b<B)(o:Obj):YB B E (h.setIfInBounds b o) v l:=⟨s.Zr.Yi hb o,s.byte⟩
theorem Zk.Zu{B:Nat}{h h':Hp}(a:Zk B h h'){b:Nat}(hb:B<=b)(o:Obj):Zk B h (h'.setIfInBounds b o):=a.trans (Zk.set hb o)
@[go_sem] theorem ZfG{K:w->Hp->Prop}{h:Hp}{a:Option Addr}{n cap b:Nat}:Nl a n cap b (A 0) K h=K (G a b cap) h:=by
 have e:(if cap=0 then a else a.map (·.add (0*n)))=a:=by
  split
  .rfl
  .rw[Nat.zero_mul];cases a<;>simp[Addr.add]
 simp only[Nl,e,Nat.sub_zero]
theorem Sl.Na{h:Hp}{p:Option Addr}{k c:Nat}{cs:List w}(s:Sl 1 h (G p k c) k cs){m:Nat}(hm:m<=k)(c':Nat):Sl 1 h (G p m c') m (cs.take m):=by
 obtain⟨p',cap,hv,hl,hc⟩:=s;simp only[Value.slice.injEq]at hv;obtain⟨rfl,_,rfl⟩:=hv;refine⟨p,c',rfl,aaa,fun Xb=>?_⟩;obtain⟨b,o,rfl,XH⟩:=hc (by intro e;subst e;simp at Xb);refine⟨b,o,rfl,fun i hi=>?_⟩;have ki:i<(D cs):=by rw[al]at hi;omega
 rw[XH i ki];simp
theorem Bs.Na{h:Hp}{p:Option Addr}{c:Nat}{l:List Nat}(s:Bs h (G p (D l) c) l){m:Nat}(hm:m<=(D l))(c':Nat):Bs h (G p m c') (l.take m):=by
 have:=s.sl.Na hm c';rw[<-List.map_take]at this;exact⟨by rw[al,Nat.min_eq_left hm];exact this,fun x hx=>s.byte x (List.mem_of_mem_take hx)⟩
attribute [go_sem] Nat.sub_zero
theorem YB.open{B:Nat}{E:O}{h:Hp}{v:w}{l:List Nat}(s:YB B E h v l):∃p c,v=G p (D l) c/\(D l)<=c:=by
 rcases s.Zr with⟨⟨p,rfl⟩,hm,_⟩|⟨b,cap,ZE,_,rfl,_,_,_,hc⟩
 .exact⟨p,0,by rw[hm],mD⟩
 .exact⟨_,cap,rfl,hc⟩
def Pj:w->Prop
 | G _ m c=>m<=c
 | _=>True
theorem YB.cap{B:Nat}{E:O}{h:Hp}{v:w}{l:List Nat}(s:YB B E h v l):Pj v:=by
 obtain⟨p,c,rfl,hc⟩:=s.open;exact hc
theorem Zk.pp{B:Nat}{h:Hp}(hB:B<=h.size)(a b:Obj):Zk B (h.push a) (h.push b):=
 ⟨sW,fun k hk=>by rw[U,U,if_neg mD,if_neg mD]⟩
end Go.V

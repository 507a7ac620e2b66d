/- Part W6. -/
import Derived.Test.YtkhkmpfenaipaaaGreatDoorW4
open Go.Value renaming slice→L,pointer→R
open Go.Obj renaming cells→Q
open List renaming toArray→G,length→J
open Option renaming bind_some→M,map_some→X,some→A,none→S
open Array renaming setIfInBounds→D
open Go renaming Value→w,TypeId→O,Operand→U,Program→W
namespace Go.V
set_option linter.all false
variable{t:O}{x:U}
section
variable {P:W} {T:World} {K:w->Hp->Prop} {F:Env} {h:Hp} {ty:O}
def eQ(B:Nat)(h0:Hp)(s:Option Bool)(n:Option Nat)(p:w)(C:w->Prop):Prop:=
 match p with
 | R (A a)=>if a.block<B then (match s,n with
  | some false,_=>qR (hc h0 a) C
  | some true,A n=>qR ((rd h0 a n).map fun l=>.agg (G l)) C
  | _,_=>False) else False
 | _=>False
def RS(P:W)(T:World)(B:Nat)(h0:Hp)(op:Op)(ty:O)(C:w->Prop)(F:Env):Prop:=
 match op with
 | .load t x=>eQ B h0 (ta P t) (tn P t) (ev F x) C
 | op=>∃v,(∀h',Sy P T op ty (OP v h') F h')/\ap C v
def sHB(P:W)(T:World)(ops:List Oper)(B:Nat)(h0:Hp)(N:Env->Hp->Prop):List (Nat × Bool × Oper)->Env->Hp->Prop
 | [],F,h=>N F h
 | (_,true,⟨d,op,ty,_,_,S⟩) :: l,F,h=>RS P T B h0 op ty (fun v=>sHB P T ops B h0 N l (Y5 F d v) h) F
 | (_,false,⟨d,op,ty,_,_,S⟩) :: l,F,h=>Sy P T op ty (fun v h'=>Zm B h0 h'/\sHB P T ops B h0 N l (Y5 F d v) h') F h
 | (_,true,⟨d,op,ty,_,_,A (j,b)⟩) :: l,F,h=>Qd (Vg ops F j) b (RS P T B h0 op ty (fun v=>sHB P T ops B h0 N l (Y5 F d v) h) F) (sHB P T ops B h0 N l (Y5 F d undef) h)
 | (_,false,⟨d,op,ty,_,_,A (j,b)⟩) :: l,F,h=>Qd (Vg ops F j) b (Sy P T op ty (fun v h'=>Zm B h0 h'/\sHB P T ops B h0 N l (Y5 F d v) h') F h) (sHB P T ops B h0 N l (Y5 F d undef) h)
theorem Ut{B:Nat}{h0 h':Hp}(b:Zm B h0 h'){a:Addr}(e:a.block<B)(n:Nat):rd h' a n=rd h0 a n:=by unfold rd;rw[b.block _ e]
theorem Fb{c p:Prop}[Decidable c]:(if c then p else False)=(c/\p):=by
 by_cases hc:c<;>simp[hc]
theorem Bz{B:Nat}{h0:Hp}{op:Op}{C:w->Prop}(H:RS P T B h0 op ty C F):∃v,(∀h',Zm B h0 h'->Sy P T op ty (fun e k=>e=v/\k=h') F h')/\C v:=by
 unfold RS at H;split at H
 .rename_i t x;unfold eQ at H;split at H
  .rename_i a o;rw[Fb]at H;let⟨hb,H⟩:=H;split at H
   .rename_i g;unfold qR at H
    grind [ap,Sy,IF,Bq,Zm.hc]
   .rename_i n g m;unfold qR at H
    grind [rd,ap,Sy,G8,F9,Ut]
   grind
  grind
 .let⟨v,f,hc⟩:=H;exact⟨v,fun h' _=>f h',hc⟩
def hK(P:W)(T:World)(ops:List Oper)(B:Nat)(h0:Hp)(N:Env->Hp->Prop)(l:List (Nat × Bool × Oper))(F:Env)(d:Option Tmp)(h:Hp):w->Prop:=fun v=>sHB P T ops B h0 N l (Y5 F d v) h
def hKs(P:W)(T:World)(ops:List Oper)(B:Nat)(h0:Hp)(N:Env->Hp->Prop)(l:List (Nat × Bool × Oper))(F:Env)(d:Option Tmp):w->Hp->Prop:=fun v h'=>Zm B h0 h'/\sHB P T ops B h0 N l (Y5 F d v) h'
section
variable {ops:List Oper} {l:List (Nat × Bool × Oper)} {B:Nat} {h0:Hp} {N:Env->Hp->Prop} {d:Option Tmp} {op:Op} {pos:String} {Rj:Array Edge} {i j:Nat} {b c:Bool} {C:w->Prop}
@[go_sem] theorem hEq{v:w}:(∃u,(∀h':Hp,OP u h' v h')/\ap C u)=C v:=by
 apply propext;constructor
 .rintro⟨u,a,H⟩;let⟨e,_⟩:=a #[];subst e;exact H
 .intro H;exact⟨v,fun _=>⟨rfl,rfl⟩,H⟩
@[go_sem] theorem ZnP:RS P T B h0 (.load t x) ty C F=eQ B h0 (ta P t) (tn P t) (ev F x) C:=rfl
@[go_sem] theorem ZmC{n:Option Nat}{a:Addr}:eQ B h0 (A false) n (R (A a)) C=if a.block<B then qR (hc h0 a) C else False:=rfl
@[go_sem] theorem ZjW{n:Nat}{a:Addr}:eQ B h0 (A true) (A n) (R (A a)) C=if a.block<B then qR ((rd h0 a n).map fun l=>.agg (G l)) C else False:=rfl
@[go_sem] theorem ZnQ:RS P T B h0 (.move x) ty C F=C (ev F x):=hEq
@[go_sem] theorem ZjX:RS P T B h0 (.assign x) ty C F=C (ev F x):=hEq
@[go_sem] theorem ZmD{i:Nat}:RS P T B h0 (.fieldAddr t x i) ty C F = ∃v,(∀h':Hp,O1 (tf P t i) (ev F x) (OP v h') h')/\ap C v:=rfl
@[go_sem] theorem Zu2{i:U}:RS P T B h0 (.indexAddr t x i) ty C F = ∃v,(∀h':Hp,vIx (XJ P t) (Un P t) (tn P) (ev F x) (ev F i) (OP v h') h')/\ap C v:=rfl
@[go_sem] theorem ZnR{y z:U}:RS P T B h0 (.pick x y z) ty C F = ∃v,(∀h':Hp,Bn (ev F x) (ev F y) (ev F z) (OP v h') h')/\ap C v:=rfl
@[go_sem] theorem ZrZ:RS P T B h0 (.nilCheck x) ty C F = ∃v,(∀h':Hp,j6 (ev F x) (OP v h') h')/\ap C v:=rfl
@[go_sem] theorem Zr0{op:BinOp}{a:O}{y:U}:RS P T B h0 (.binOp op t x y a) ty C F = ∃v,(∀h':Hp,Ji P op t x y (ev F x) (ev F y) (OP v h') h')/\ap C v:=rfl
@[go_sem] theorem Zu3{op:UnOp}:RS P T B h0 (.unOp op t x) ty C F = ∃v,(∀h':Hp,vUn P op (ev F x) (OP v h') h')/\ap C v:=rfl
@[go_sem] theorem ZnS{s:O}:RS P T B h0 (.convert s t x) ty C F = ∃v,(∀h':Hp,L9 P s t (ev F x) (OP v h') h')/\ap C v:=rfl
@[go_sem] theorem ZiN{i:Nat}:RS P T B h0 (.extract x i) ty C F = ∃v,(∀h':Hp,VD (ev F x) i (OP v h') h')/\ap C v:=rfl
@[go_sem] theorem Zr1{lo hi a:Option U}:RS P T B h0 (.slice t x lo hi a) ty C F = ∃v,(∀h':Hp,Cu (XJ P t) (Un P t) (VC P t) (tn P) (ev F x) (qE F lo) (qE F hi) (qE F a) (OP v h') h')/\ap C v:=rfl
@[go_sem] theorem ZmE{parts:Array (Nat × U)}:RS P T B h0 (.build t parts) ty C F = ∃v,(∀h':Hp,Lg (tz P t) (ME P t) (XJ P t) (tn P) (j7 F parts.toList) (OP v h') h')/\ap C v:=rfl
@[go_sem] theorem Zu4{b:Builtin}{args:Array U}{ts:Array O}:RS P T B h0 (.call ⟨.builtin b,args,ts⟩) ty C F =
  ∃v,(∀h':Hp,OV P T b ts ty (args.map fun|.const _=>true|_=>false) (uo F args.toList) (OP v h') h')/\ap C v:=rfl
end
@[go_sem] theorem Zu5{l:List w}{b a o:Nat}:hc (D h b (Q (G l) t)) ⟨a,o,S⟩=if a=b then (if b<h.size then nth l o else S) else hc h ⟨a,o,S⟩:=by
 grind [hc,X2]
@[go_sem] theorem Zu6{l:List w}{b a o n:Nat}:rd (D h b (Q (G l) t)) ⟨a,o,S⟩ n=if a=b then (if b<h.size then (if o+n<=(J l) then A ((l.drop o).take n) else S) else S) else rd h ⟨a,o,S⟩ n:=by
 grind [rd]
attribute [go_sem] Array.size_setIfInBounds
theorem Yr{l:List w}{b:Nat}(hr:h[b]? = A (Q (G l) t))(o:Nat)(vs:List w):wr h ⟨b,o,S⟩ vs=if o+(J vs)<=(J l)/\vs.all YV=true then A (D h b (Q (XB l o vs).toArray t)) else S:=by
 grind [wr]
theorem XZ{l:List w}{b:Nat}(hr:h[b]? = A (Q (G l) t))(o:Nat)(v:w):Uf h ⟨b,o,S⟩ v=if o<(J l)/\YV v=true then A (D h b (Q (l.set o v).toArray t)) else S:=by
 grind [Uf]
theorem Zm.get{B:Nat}{h0 a:Hp}(b:Zm B h0 a){k:Nat}{o:Obj}(e:k<B)(h:h0[k]? = A o):a[k]? = A o:=(b.block k e).trans h
theorem Zf{o:Obj}:(h.push o)[h.size]? = A o:=zX
theorem ZX{o:Obj}{b:Nat}(hb:b<h.size):(h.push o)[b]? = h[b]?:=zK
end
section
variable {P:W} {h:Hp}
def rvF(s:Option Bool)(n:Option Nat)(a:Addr)(h:Hp):Option w:=
 match s,n with
 | some false,_=>hc h a
 | some true,A n=>(rd h a n).map fun l=>.agg (G l)
 | _,_=>S
@[go_sem] theorem ZnT{n:Nat}{a:Addr}:rvF (A true) (A n) a h=(rd h a n).map fun l=>.agg (G l):=rfl
theorem eW{b:Bool}(hb:ta P t=A b):hr P (isAgg t) h=A b:=by
 unfold ta at hb
 cases hi:P.underlying t with
 | none=>rw[hi]at hb;cases hb
 | some d=>
  rw[hi]at hb;simp only[X,Option.some.injEq]at hb;subst hb;unfold isAgg underlying;rw[Ul,Ul];show ((hr P (match P.underlying t with|some d=>pure d|none=>stuck "no such type") h).bind fun a=>hr P (match a with|.struct _=>pure true|.array _ _=>pure true|_=>pure false) h)=_
  rw[hi]
  cases d<;>rfl
theorem vo{n:Nat}(e:tn P t=A n):hr P (sizeOf t) h=A n:=by
 unfold tn at e
 cases hi:P.info? t with
 | none=>rw[hi]at e;cases e
 | some i=>
  rw[hi]at e;simp only[X,Option.some.injEq]at e;subst e;unfold sizeOf typeInfo;rw[Ul,Ul];show ((hr P (match P.info? t with|some d=>pure d|none=>stuck "no such type") h).bind fun a=>hr P (pure a.size) h)=_
  rw[hi];rfl
theorem ay(a:Addr)(c:List w):∀(n i:Nat) (acc:Array w),(∀j,j<n->hc h (a.add (i+j))=A (c.getD j undef))->n=(J c)->hr P (loadCellsFrom a i n acc) h=A (acc++(G c)):=by
 induction c with
 | nil=>intro n i acc _ f;subst f;simp[loadCellsFrom,pure,hr]
 | cons v c k=>
  intro n i acc g f;subst f;show hr P (load (a.add i) >>= fun v=>loadCellsFrom a (i+1) (J c) (acc.push v)) h=_;rw[Ul];have e:hr P (load (a.add i)) h=A v:=by
   have:=g 0 zX;rw[Nat.add_zero]at this;show (hc h (a.add i)).bind _=_;rw[this];rfl
  rw[e,M,k _ (i+1) _ (fun j m=>?_) rfl]
  .simp
  .have:=g (j+1) Fo
   grind
@[go_sem] theorem lG{a:Addr}(g:(rvF (ta P t) (tn P t) a h).isSome=true):L5 P t (R (A a)) h=rvF (ta P t) (tn P t) a h:=by
 unfold L5;show hr P (loadVar t a) h=_;unfold loadVar;rw[Ul];unfold rvF at g ⊢;split at g
 .rename_i k;rw[eW k,M,if_neg zX];show (hc h a).bind (fun v=>A v)=hc h a
  grind
 .rename_i n k m;rw[eW k,M,if_pos rfl,Ul,vo m,M,Ul]
  cases f:rd h a n with
  | none=>rw[f]at g;cases g
  | some l=>
   unfold rd at f;split at f
   .rename_i c e s hb;split at f
    .rename_i o;let⟨r,q⟩:=o;simp only[Option.some.injEq]at f;subst f;have hlen:((c.toList.drop a.off).take n).length=n:=Fo;have:=ay (P:=P) (h:=h) a ((c.toList.drop a.off).take n) n 0 #[] (fun j p=>by
      grind [hc,Mf]) hlen.symm
     unfold loadCells;rw[this,M];show A (Value.agg (#[]++_))=_;simp
    .cases f
   .cases f
 .cases g
end
theorem QU.Ym{B:Nat}{E:O}{n:Nat}{h:Hp}{v:w}{m:Nat}{cs:List w}(s:QU B E n h v m cs){b:Nat}(hb:b<B)(o:Obj):QU B E n (D h b o) v m cs:=by
 grind [QU]
theorem YL.Ym{B:Nat}{E:O}{h:Hp}{v:w}{l:List Nat}(s:YL B E h v l){b:Nat}(hb:b<B)(o:Obj):YL B E (D h b o) v l:=⟨s.Zn.Ym hb o,s.byte⟩
theorem Zm.ZA{B:Nat}{h h':Hp}(a:Zm B h h'){b:Nat}(hb:B<=b)(o:Obj):Zm B h (D h' b o):=a.trans (Zm.set hb o)
@[go_sem] theorem ZjY{K:w->Hp->Prop}{h:Hp}{a:Option Addr}{n cap b:Nat}:MQ a n cap b (A 0) K h=K (L a b cap) h:=by
 have e:(if cap=0 then a else a.map (·.add (0*n)))=a:=by
  split
  .rfl
  .rw[Nat.zero_mul];cases a<;>simp[Addr.add]
 simp only[MQ,e,Nat.sub_zero]
theorem Sl.MF{h:Hp}{p:Option Addr}{k c:Nat}{cs:List w}(s:Sl 1 h (L p k c) k cs){m:Nat}(f:m<=k)(c':Nat):Sl 1 h (L p m c') m (cs.take m):=by
 let⟨e,cap,a,g,hc⟩:=s;simp only[Value.slice.injEq]at a;obtain⟨rfl,_,rfl⟩:=a;refine⟨p,c',rfl,zK,fun n=>?_⟩;obtain⟨b,o,rfl,q⟩:=hc zK
 grind [YU]
theorem Bs.MF{h:Hp}{p:Option Addr}{c:Nat}{l:List Nat}(s:Bs h (L p (J l) c) l){m:Nat}(e:m<=(J l))(c':Nat):Bs h (L p m c') (l.take m):=by
 have:=s.sl.MF e c';rw[<-List.map_take]at this;exact⟨zK,fun x a=>s.byte x (List.mem_of_mem_take a)⟩
attribute [go_sem] Nat.sub_zero
theorem YL.open{B:Nat}{E:O}{h:Hp}{v:w}{l:List Nat}(s:YL B E h v l):∃p c,v=L p (J l) c/\(J l)<=c:=by
 rcases s.Zn with⟨⟨p,rfl⟩,a,_⟩|⟨b,cap,ZT,_,rfl,_,_,_,hc⟩
 .grind
 grind
def RT:w->Prop
 | L _ m c=>m<=c
 | _=>True
theorem YL.cap{B:Nat}{E:O}{h:Hp}{v:w}{l:List Nat}(s:YL B E h v l):RT v:=by
 obtain⟨p,c,rfl,hc⟩:=s.open;exact hc
theorem Zm.pp{B:Nat}{h:Hp}(f:B<=h.size)(a b:Obj):Zm B (h.push a) (h.push b):=
 ⟨zX,fun k e=>by grind⟩
end Go.V

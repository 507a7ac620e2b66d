/- Part W6. -/
import Derived.Test.YtdpjmhgbmhjniaaDoorW4
namespace Go.V
set_option linter.unusedVariables false
set_option linter.unusedSimpArgs false
section
variable {P:Program} {T:World} {K:Value→Hp→Prop} {F:Env} {h:Hp} {ty:TypeId}
def Vs (B:Nat) (h0:Hp) (s:Option Bool) (n:Option Nat) (p:Value) (C:Value→Prop):Prop:=
 match p with
 | .pointer (some a)=>if a.block<B then (match s,n with
  | some false,_=>qR (hc h0 a) C
  | some true,some n=>qR ((rd h0 a n).map fun l=>.agg l.toArray) C
  | _,_=>False) else False
 | _=>False
def XV (P:Program) (T:World) (B:Nat) (h0:Hp) (op:Op) (ty:TypeId) (C:Value→Prop) (F:Env):Prop:=
 match op with
 | .load t x=>Vs B h0 (ta P t) (tn P t) (ev F x) C
 | op=>∃v,(∀h',Je P T op ty (Jh v h') F h')∧ap C v
def TX (P:Program) (T:World) (ops:List Oper) (B:Nat) (h0:Hp) (N:Env→Hp→Prop):List (Nat × Bool × Oper)→Env→Hp→Prop
 | [],F,h=>N F h
 | (_,true,⟨d,op,ty,_,_,none⟩) :: l,F,h=>XV P T B h0 op ty (fun v=>TX P T ops B h0 N l (Zl F d v) h) F
 | (_,false,⟨d,op,ty,_,_,none⟩) :: l,F,h=>Je P T op ty (fun v h'=>Zj B h0 h'∧TX P T ops B h0 N l (Zl F d v) h') F h
 | (_,true,⟨d,op,ty,_,_,some (j,b)⟩) :: l,F,h=>ZZ (Y1 ops F j) b (XV P T B h0 op ty (fun v=>TX P T ops B h0 N l (Zl F d v) h) F) (TX P T ops B h0 N l (Zl F d undef) h)
 | (_,false,⟨d,op,ty,_,_,some (j,b)⟩) :: l,F,h=>ZZ (Y1 ops F j) b (Je P T op ty (fun v h'=>Zj B h0 h'∧TX P T ops B h0 N l (Zl F d v) h') F h) (TX P T ops B h0 N l (Zl F d undef) h)
theorem LJ {B:Nat} {h0 h':Hp} (b:Zj B h0 h') {a:Addr} (ha:a.block<B) (n:Nat):rd h' a n=rd h0 a n:=by unfold rd;rw[b.block _ ha]
theorem QG {c p:Prop} [Decidable c]:(if c then p else False)=(c∧p):=by
 by_cases hc:c<;>simp[hc]
theorem YY {B:Nat} {h0:Hp} {op:Op} {C:Value→Prop} (H:XV P T B h0 op ty C F):∃v,(∀h',Zj B h0 h'→Je P T op ty (fun v' Qc=>v'=v∧Qc=h') F h')∧C v:=by
 unfold XV at H
 split at H
 ·rename_i t x
  unfold Vs at H
  split at H
  ·rename_i a ha
   rw[QG]at H
   obtain⟨hb,H⟩:=H
   split at H
   ·rename_i hs
    unfold qR at H
    split at H
    ·rename_i v hv
     refine⟨v,fun h' RF=>?_,H⟩
     show JL (ta P t) (tn P t) (ev F x) _ h'
     rw[hs,ha]
     rw[U4,RF.hc hb,hv]
     exact⟨rfl,rfl⟩
    ·exact H.elim
   ·rename_i n hs hn
    unfold qR at H
    split at H
    ·rename_i v hv
     refine⟨v,fun h' RF=>?_,H⟩
     show JL (ta P t) (tn P t) (ev F x) _ h'
     rw[hs,hn,ha]
     rw[Q3,LJ RF hb]
     cases hr:rd h0 a n with
     | none=>rw[hr]at hv;cases hv
     | some l=>
      rw[hr]at hv
      simp only[Option.map_some,Option.some.injEq]at hv
      subst hv
      exact⟨rfl,rfl⟩
    ·exact H.elim
   ·exact H.elim
  ·exact H.elim
 ·obtain⟨v,hv,hc⟩:=H
  exact⟨v,fun h' _=>hv h',hc⟩
theorem ZU {ops:List Oper} {B:Nat} {h0:Hp} {N:Env→Hp→Prop}:∀(l:List (Nat × Bool × Oper)) (F:Env) (h:Hp),TX P T ops B h0 N l F h→JI P T ops.toArray (fun h'=>Zj B h0 h') N l F h
 | [],F,h,H=>H
 | (i,true,⟨d,op,ty,pos,YN,none⟩) :: l,F,h,H=>by
  show (if Zp ops.toArray _ F=true then _ else _)
  rw[if_pos (by rfl)]
  obtain⟨v,hv,H⟩:=YY H
  exact⟨v,fun h' hs=>ZY (hv h' hs),ZU l _ _ H⟩
 | (i,false,⟨d,op,ty,pos,YN,none⟩) :: l,F,h,H=>by
  show (if Zp ops.toArray _ F=true then _ else _)
  rw[if_pos (by rfl)]
  exact Yf (fun v h' q=>⟨q.1,ZU l _ _ q.2⟩) H
 | (i,true,⟨d,op,ty,pos,YN,some (j,b)⟩) :: l,F,h,H=>by
  show (if Zp ops.toArray _ F=true then _ else _)
  rcases ZB ops F d op pos YN j b H with⟨hw,H⟩|⟨hw,H⟩
  ·rw[if_pos hw]
   obtain⟨v,hv,H⟩:=YY H
   exact⟨v,fun h' hs=>ZY (hv h' hs),ZU l _ _ H⟩
  ·rw[hw,if_neg (by simp)]
   exact ZU l _ _ H
 | (i,false,⟨d,op,ty,pos,YN,some (j,b)⟩) :: l,F,h,H=>by
  show (if Zp ops.toArray _ F=true then _ else _)
  rcases ZB ops F d op pos YN j b H with⟨hw,H⟩|⟨hw,H⟩
  ·rw[if_pos hw]
   exact Yf (fun v h' q=>⟨q.1,ZU l _ _ q.2⟩) H
  ·rw[hw,if_neg (by simp)]
   exact ZU l _ _ H
def YU (ops:List Oper):List (Nat × Bool)→List (Nat × Bool × Oper)
 | []=>[]
 | (i,q) :: l=>(match nth ops i with|some o=>(i,q,o)|none=>(i,q,default)) :: YU ops l
theorem VS.b {n:Nat} {N:Env→Hp→Prop} {X:Nat→Env→Hp→Prop} {R:Env→Hp→Prop} {id:Nat} {ops:List Oper} (B:Nat) (l:List (Nat × Bool)) (hm:P.follows .mixedOrders=true) (ZN:Xo n ops.toArray l=true)
  (H:TX P T ops B h N (YU ops l) F h):VS P n T (.region id ops.toArray true) N X R F h:=by
 refine VS.held (fun h'=>Zj B h h') l hm ZN (Zj.refl _ _) ?_
 have e:YO ops.toArray l=YU ops l:=by
  unfold YO
  have:∀l:List (Nat × Bool),(l.map fun (i,q)=>(i,q,ops.toArray.getD i default))=YU ops l:=by
   intro l
   induction l with
   | nil=>rfl
   | cons x l ih=>
    obtain⟨i,q⟩:=x
    simp only[List.map_cons,YU,ih]
    congr 1
    rw[Yx]
    cases hx:ops[i]? with
    | none=>simp[Array.getD_eq_getD_getElem?,hx]
    | some o=>simp[Array.getD_eq_getD_getElem?,hx]
  exact this l
 rw[e]
 exact ZU _ _ _ H
def hK (P:Program) (T:World) (ops:List Oper) (B:Nat) (h0:Hp) (N:Env→Hp→Prop) (l:List (Nat × Bool × Oper)) (F:Env) (d:Option Tmp) (h:Hp):Value→Prop:=fun v=>TX P T ops B h0 N l (Zl F d v) h
def Ez (P:Program) (T:World) (ops:List Oper) (B:Nat) (h0:Hp) (N:Env→Hp→Prop) (l:List (Nat × Bool × Oper)) (F:Env) (d:Option Tmp):Value→Hp→Prop:=fun v h'=>Zj B h0 h'∧TX P T ops B h0 N l (Zl F d v) h'
section
variable {ops:List Oper} {l:List (Nat × Bool × Oper)} {B:Nat} {h0:Hp} {N:Env→Hp→Prop} {d:Option Tmp} {op:Op} {pos:String} {YN:Array Edge} {i j:Nat} {b c:Bool} {C:Value→Prop}
@[go_sem] theorem HW:TX P T ops B h0 N [] F h=N F h:=rfl
@[go_sem] theorem EA:TX P T ops B h0 N ((i,true,⟨d,op,ty,pos,YN,none⟩) :: l) F h=XV P T B h0 op ty (hK P T ops B h0 N l F d h) F:=rfl
@[go_sem] theorem EB:TX P T ops B h0 N ((i,false,⟨d,op,ty,pos,YN,none⟩) :: l) F h=Je P T op ty (Ez P T ops B h0 N l F d) F h:=rfl
@[go_sem] theorem GN {v:Value}:hK P T ops B h0 N l F d h v=TX P T ops B h0 N l (Zl F d v) h:=rfl
@[go_sem] theorem HX {v:Value}:Ez P T ops B h0 N l F d v h=(Zj B h0 h∧TX P T ops B h0 N l (Zl F d v) h):=rfl
@[go_sem] theorem MS:YU ops []=[]:=rfl
def EC (ops:List Oper) (i:Nat) (q:Bool) (o:Option Oper) (l:List (Nat × Bool)):List (Nat × Bool × Oper):=(match o with|some o=>(i,q,o)|none=>(i,q,default)) :: YU ops l
@[go_sem] theorem Mg {q:Bool} {l:List (Nat × Bool)}:YU ops ((i,q) :: l)=EC ops i q (nth ops i) l:=rfl
@[go_sem] theorem K9 {q:Bool} {o:Oper} {l:List (Nat × Bool)}:EC ops i q (some o) l=(i,q,o) :: YU ops l:=rfl
@[go_sem] theorem ED {v:Value}:(∃u,(∀h':Hp,Jh u h' v h')∧ap C u)=C v:=by
 apply propext;constructor
 ·rintro⟨u,hu,H⟩;obtain⟨e,_⟩:=hu #[];subst e;exact H
 ·intro H;exact⟨v,fun _=>⟨rfl,rfl⟩,H⟩
@[go_sem] theorem Ia {t:TypeId} {x:Operand}:XV P T B h0 (.load t x) ty C F=Vs B h0 (ta P t) (tn P t) (ev F x) C:=rfl
@[go_sem] theorem KA {n:Option Nat} {a:Addr}:Vs B h0 (some false) n (.pointer (some a)) C=if a.block<B then qR (hc h0 a) C else False:=rfl
@[go_sem] theorem LK {n:Nat} {a:Addr}:Vs B h0 (some true) (some n) (.pointer (some a)) C=if a.block<B then qR ((rd h0 a n).map fun l=>.agg l.toArray) C else False:=rfl
@[go_sem] theorem Ib {x:Operand}:XV P T B h0 (.move x) ty C F=C (ev F x):=ED
@[go_sem] theorem LL {x:Operand}:XV P T B h0 (.assign x) ty C F=C (ev F x):=ED
@[go_sem] theorem KB {t:TypeId} {x:Operand} {i:Nat}:XV P T B h0 (.fieldAddr t x i) ty C F = ∃v,(∀h':Hp,Js (tf P t i) (ev F x) (Jh v h') h')∧ap C v:=rfl
@[go_sem] theorem GO {t:TypeId} {x i:Operand}:XV P T B h0 (.indexAddr t x i) ty C F = ∃v,(∀h':Hp,MN (Yp P t) (XD P t) (tn P) (ev F x) (ev F i) (Jh v h') h')∧ap C v:=rfl
@[go_sem] theorem Ic {x y z:Operand}:XV P T B h0 (.pick x y z) ty C F = ∃v,(∀h':Hp,UZ (ev F x) (ev F y) (ev F z) (Jh v h') h')∧ap C v:=rfl
@[go_sem] theorem HY {x:Operand}:XV P T B h0 (.nilCheck x) ty C F = ∃v,(∀h':Hp,Tc (ev F x) (Jh v h') h')∧ap C v:=rfl
@[go_sem] theorem HZ {op:BinOp} {t t':TypeId} {x y:Operand}:XV P T B h0 (.binOp op t x y t') ty C F = ∃v,(∀h':Hp,ZI P op t x y (ev F x) (ev F y) (Jh v h') h')∧ap C v:=rfl
@[go_sem] theorem GP {op:UnOp} {t:TypeId} {x:Operand}:XV P T B h0 (.unOp op t x) ty C F = ∃v,(∀h':Hp,Kx P op (ev F x) (Jh v h') h')∧ap C v:=rfl
@[go_sem] theorem Ie {s t:TypeId} {x:Operand}:XV P T B h0 (.convert s t x) ty C F = ∃v,(∀h':Hp,XQ P s t (ev F x) (Jh v h') h')∧ap C v:=rfl
@[go_sem] theorem MT {x:Operand} {i:Nat}:XV P T B h0 (.extract x i) ty C F = ∃v,(∀h':Hp,YE (ev F x) i (Jh v h') h')∧ap C v:=rfl
@[go_sem] theorem H5 {t:TypeId} {x i:Operand}:XV P T B h0 (.index t x i) ty C F = ∃v,(∀h':Hp,Tf (Yp P t) (Jr P t) (ta P) (tn P) (ev F x) (ev F i) (Jh v h') h')∧ap C v:=rfl
@[go_sem] theorem H6 {t:TypeId} {x:Operand} {lo hi mx:Option Operand}:XV P T B h0 (.slice t x lo hi mx) ty C F = ∃v,(∀h':Hp,UF (Yp P t) (XD P t) (Jr P t) (tn P) (ev F x) (SC F lo) (SC F hi) (SC F mx) (Jh v h') h')∧ap C v:=rfl
@[go_sem] theorem KC {t:TypeId} {parts:Array (Nat × Operand)}:XV P T B h0 (.build t parts) ty C F = ∃v,(∀h':Hp,Jt (tz P t) (Lk P t) (Yp P t) (tn P) (Td F parts.toList) (Jh v h') h')∧ap C v:=rfl
@[go_sem] theorem GQ {b:Builtin} {args:Array Operand} {ts:Array TypeId}:XV P T B h0 (.call ⟨.builtin b,args,ts⟩) ty C F =
  ∃v,(∀h':Hp,UE P T b ts ty (args.map fun|.const _=>true|_=>false) (Pk F args.toList) (Jh v h') h')∧ap C v:=rfl
end
attribute [go_sem] Array.size_setIfInBounds
theorem TY {l:List Value} {t:TypeId} {b:Nat} (hr:h[b]? = some (.cells l.toArray t)) (o:Nat) (vs:List Value):wr h ⟨b,o,none⟩ vs=if o+vs.length≤l.length∧vs.all Yb=true then some (h.setIfInBounds b (.cells (ZW l o vs).toArray t)) else none:=by
 unfold wr
 simp only[hr,List.size_toArray,Nat.le_refl,true_and]
theorem ZA {l:List Value} {t:TypeId} {b:Nat} (hr:h[b]? = some (.cells l.toArray t)) (o:Nat) (v:Value):XN h ⟨b,o,none⟩ v=if o<l.length∧Yb v=true then some (h.setIfInBounds b (.cells (l.set o v).toArray t)) else none:=by
 unfold XN
 simp only[hr,List.size_toArray,Nat.le_refl,true_and,List.setIfInBounds_toArray]
theorem Zj.get {B:Nat} {h0 h1:Hp} (b:Zj B h0 h1) {k:Nat} {o:Obj} (hk:k<B) (h:h0[k]? = some o):h1[k]? = some o:=(b.block k hk).trans h
theorem Zn {o:Obj}:(h.push o)[h.size]? = some o:=by simp
theorem Zm {o:Obj} {b:Nat} (hb:b<h.size):(h.push o)[b]? = h[b]?:=by rw[Array.getElem?_push,if_neg (by omega)]
end
section
variable {P:Program} {h:Hp}
def MU (s:Option Bool) (n:Option Nat) (a:Addr) (h:Hp):Option Value:=
 match s,n with
 | some false,_=>hc h a
 | some true,some n=>(rd h a n).map fun l=>.agg l.toArray
 | _,_=>none
@[go_sem] theorem H7 {n:Option Nat} {a:Addr}:MU (some false) n a h=hc h a:=rfl
@[go_sem] theorem Ig {n:Nat} {a:Addr}:MU (some true) (some n) a h=(rd h a n).map fun l=>.agg l.toArray:=rfl
theorem Vt {t:TypeId} {b:Bool} (hb:ta P t=some b):hr P (isAgg t) h=some b:=by
 unfold ta at hb
 cases hi:P.underlying t with
 | none=>rw[hi]at hb;cases hb
 | some d=>
  rw[hi]at hb
  simp only[Option.map_some,Option.some.injEq]at hb
  subst hb
  unfold isAgg underlying
  rw[Z1,Z1]
  show ((hr P (match P.underlying t with|some d=>pure d|none=>stuck "no such type") h).bind fun a=>hr P (match a with|.struct _=>pure true|.array _ _=>pure true|_=>pure false) h)=_
  rw[hi]
  cases d<;>rfl
theorem RG {t:TypeId} {n:Nat} (hn:tn P t=some n):hr P (sizeOf t) h=some n:=by
 unfold tn at hn
 cases hi:P.info? t with
 | none=>rw[hi]at hn;cases hn
 | some i=>
  rw[hi]at hn
  simp only[Option.map_some,Option.some.injEq]at hn
  subst hn
  unfold sizeOf typeInfo
  rw[Z1,Z1]
  show ((hr P (match P.info? t with|some d=>pure d|none=>stuck "no such type") h).bind fun a=>hr P (pure a.size) h)=_
  rw[hi]
  rfl
theorem Wx (a:Addr) (c:List Value):∀(n i:Nat) (acc:Array Value),(∀j,j<n→hc h (a.add (i+j))=some (c.getD j undef))→n=c.length→hr P (loadCellsFrom a i n acc) h=some (acc++c.toArray):=by
 induction c with
 | nil=>intro n i acc _ hn;subst hn;simp[loadCellsFrom,pure,hr]
 | cons v c ih=>
  intro n i acc hj hn
  subst hn
  show hr P (load (a.add i) >>= fun v=>loadCellsFrom a (i+1) c.length (acc.push v)) h=_
  rw[Z1]
  have e:hr P (load (a.add i)) h=some v:=by
   have:=hj 0 (by simp)
   rw[Nat.add_zero]at this
   show (hc h (a.add i)).bind _=_
   rw[this];rfl
  rw[e,Option.bind_some,ih _ (i+1) _ (fun j HP=>?_) rfl]
  ·simp
  ·have:=hj (j+1) (by simp;omega)
   have e:i+(j+1)=i+1+j:=by omega
   rw[e]at this
   simpa using this
@[go_sem] theorem TZ {t:TypeId} {a:Addr} (hs:(MU (ta P t) (tn P t) a h).isSome=true):JJ P t (.pointer (some a)) h=MU (ta P t) (tn P t) a h:=by
 unfold JJ
 show hr P (loadVar t a) h=_
 unfold loadVar
 rw[Z1]
 unfold MU at hs ⊢
 split at hs
 ·rename_i ht
  rw[Vt ht,Option.bind_some,if_neg (by simp)]
  show (hc h a).bind (fun v=>some v)=hc h a
  cases hc h a<;>rfl
 ·rename_i n ht hn
  rw[Vt ht,Option.bind_some,if_pos rfl,Z1,RG hn,Option.bind_some,Z1]
  cases hl:rd h a n with
  | none=>rw[hl]at hs;cases hs
  | some l=>
   unfold rd at hl
   split at hl
   ·rename_i c e fr hb
    split at hl
    ·rename_i JO
     obtain⟨h1,h2⟩:=JO
     simp only[Option.some.injEq]at hl
     subst hl
     have hlen:((c.toList.drop a.off).take n).length=n:=by simp;omega
     have:=Wx (P:=P) (h:=h) a ((c.toList.drop a.off).take n) n 0 #[] (fun j hj=>by
      rw[X6 a _ h1]
      unfold hc
      rw[hb]
      simp only[Option.isSome_none,Bool.false_eq_true,if_false]
      rw[List.getD_eq_getElem?_getD,List.getElem?_take,if_pos hj,List.getElem?_drop]
      have e:a.off+(0+j)=a.off+j:=by omega
      rw[e]
      simp
      rw[Array.getElem?_eq_getElem (by omega)];rfl) hlen.symm
     unfold loadCells
     rw[this,Option.bind_some]
     show some (Value.agg (#[]++_))=_
     simp
    ·cases hl
   ·cases hl
 ·cases hs
end
theorem Own.Qh {B:Nat} {E:TypeId} {n:Nat} {h:Hp} {v:Value} {m:Nat} {cs:List Value} (s:Own B E n h v m cs) {b:Nat} (hb:b<B) (o:Obj):Own B E n (h.setIfInBounds b o) v m cs:=by
 rcases s with s|⟨b',cap,Zy,hB,rfl,hg,r⟩
 ·exact .inl s
 ·exact .inr ⟨b',cap,Zy,hB,rfl,by rw[Array.getElem?_setIfInBounds,if_neg (by omega)];exact hg,r⟩
theorem Y8.Qh {B:Nat} {E:TypeId} {h:Hp} {v:Value} {l:List Nat} (s:Y8 B E h v l) {b:Nat} (hb:b<B) (o:Obj):Y8 B E (h.setIfInBounds b o) v l:=⟨s.ZJ.Qh hb o,s.byte⟩
theorem Zj.Xk {B:Nat} {h h':Hp} (a:Zj B h h') {b:Nat} (hb:B≤b) (o:Obj):Zj B h (h'.setIfInBounds b o):=a.trans (Zj.set hb o)
attribute [go_sem] Nat.sub_zero
theorem Y8.open {B:Nat} {E:TypeId} {h:Hp} {v:Value} {l:List Nat} (s:Y8 B E h v l):∃p c,v=.slice p l.length c∧l.length≤c:=by
 rcases s.ZJ with⟨⟨p,rfl⟩,hm,_⟩|⟨b,cap,Zy,_,rfl,_,_,_,hc⟩
 ·exact⟨p,0,by rw[hm],by omega⟩
 ·exact⟨_,cap,rfl,hc⟩
end Go.V

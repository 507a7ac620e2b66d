/- W5: a region that draws its order and holds a call or a store: all that only reads is read first, of what lay there when it began. -/
import Derived.Test.YthlfaofofaphfaaDoorW4
namespace Go.V
set_option linter.unusedVariables false
set_option linter.unusedSimpArgs false
section
variable {P:Program} {T:World} {K:Value→Hp→Prop} {F:Env} {h:Hp} {ty:TypeId}
def UQ (B:Nat) (h0:Hp) (s:Option Bool) (n:Option Nat) (p:Value) (C:Value→Prop):Prop:=
 match p with
 | .pointer (some a)=>if a.block<B then (match s,n with
  | some false,_=>qR (hc h0 a) C
  | some true,some n=>qR ((rd h0 a n).map fun l=>.agg l.toArray) C
  | _,_=>False) else False
 | _=>False
def X1 (P:Program) (T:World) (B:Nat) (h0:Hp) (op:Op) (ty:TypeId) (C:Value→Prop) (F:Env):Prop:=
 match op with
 | .load t x=>UQ B h0 (ta P t) (tn P t) (ev F x) C
 | op=>∃v,(∀h',Xc P T op ty (XM v h') F h')∧ap C v
def W0 (P:Program) (T:World) (ops:List Oper) (B:Nat) (h0:Hp) (N:Env→Hp→Prop):List (Nat × Bool × Oper)→Env→Hp→Prop
 | [],F,h=>N F h
 | (_,true,⟨d,op,ty,_,_,none⟩) :: l,F,h=>X1 P T B h0 op ty (fun v=>W0 P T ops B h0 N l (Zi F d v) h) F
 | (_,false,⟨d,op,ty,_,_,none⟩) :: l,F,h=>Xc P T op ty (fun v h'=>Zg B h0 h'∧W0 P T ops B h0 N l (Zi F d v) h') F h
 | (_,true,⟨d,op,ty,_,_,some (j,b)⟩) :: l,F,h=>ZJ (Yu ops F j) b (X1 P T B h0 op ty (fun v=>W0 P T ops B h0 N l (Zi F d v) h) F) (W0 P T ops B h0 N l (Zi F d undef) h)
 | (_,false,⟨d,op,ty,_,_,some (j,b)⟩) :: l,F,h=>ZJ (Yu ops F j) b (Xc P T op ty (fun v h'=>Zg B h0 h'∧W0 P T ops B h0 N l (Zi F d v) h') F h) (W0 P T ops B h0 N l (Zi F d undef) h)
theorem Q8 {B:Nat} {h0 h':Hp} (b:Zg B h0 h') {a:Addr} (ha:a.block<B) (n:Nat):rd h' a n=rd h0 a n:=by unfold rd;rw[b.block _ ha]
theorem Jz {c p:Prop} [Decidable c]:(if c then p else False)=(c∧p):=by
 by_cases hc:c<;>simp[hc]
theorem Yq {B:Nat} {h0:Hp} {op:Op} {C:Value→Prop} (H:X1 P T B h0 op ty C F):∃v,(∀h',Zg B h0 h'→Xc P T op ty (fun v' X3=>v'=v∧X3=h') F h')∧C v:=by
 unfold X1 at H
 split at H
 ·rename_i t x
  unfold UQ at H
  split at H
  ·rename_i a ha
   rw[Jz]at H
   obtain⟨hb,H⟩:=H
   split at H
   ·rename_i hs
    unfold qR at H
    split at H
    ·rename_i v hv
     refine⟨v,fun h' TC=>?_,H⟩
     show XF (ta P t) (tn P t) (ev F x) _ h'
     rw[hs,ha]
     rw[QJ,TC.hc hb,hv]
     exact⟨rfl,rfl⟩
    ·exact H.elim
   ·rename_i n hs hn
    unfold qR at H
    split at H
    ·rename_i v hv
     refine⟨v,fun h' TC=>?_,H⟩
     show XF (ta P t) (tn P t) (ev F x) _ h'
     rw[hs,hn,ha]
     rw[JX,Q8 TC hb]
     cases hr:rd h0 a n with
     | none=>rw[hr]at hv;cases hv
     | some l=>
      rw[hr]at hv
      simp only[Option.map_some,Option.some.injEq]at hv
      subst hv
      exact⟨rfl,rfl⟩
    ·exact H.elim
   ·exact H.elim
  ·exact H.elim
 ·obtain⟨v,hv,hc⟩:=H
  exact⟨v,fun h' _=>hv h',hc⟩
theorem ZB {ops:List Oper} {B:Nat} {h0:Hp} {N:Env→Hp→Prop}:∀(l:List (Nat × Bool × Oper)) (F:Env) (h:Hp),W0 P T ops B h0 N l F h→XC P T ops.toArray (fun h'=>Zg B h0 h') N l F h
 | [],F,h,H=>H
 | (i,true,⟨d,op,ty,pos,Yf,none⟩) :: l,F,h,H=>by
  show (if Zh ops.toArray _ F=true then _ else _)
  rw[if_pos (by rfl)]
  obtain⟨v,hv,H⟩:=Yq H
  exact⟨v,fun h' hs=>ZF (hv h' hs),ZB l _ _ H⟩
 | (i,false,⟨d,op,ty,pos,Yf,none⟩) :: l,F,h,H=>by
  show (if Zh ops.toArray _ F=true then _ else _)
  rw[if_pos (by rfl)]
  exact ZU (fun v h' q=>⟨q.1,ZB l _ _ q.2⟩) H
 | (i,true,⟨d,op,ty,pos,Yf,some (j,b)⟩) :: l,F,h,H=>by
  show (if Zh ops.toArray _ F=true then _ else _)
  rcases Zo ops F d op pos Yf j b H with⟨hw,H⟩|⟨hw,H⟩
  ·rw[if_pos hw]
   obtain⟨v,hv,H⟩:=Yq H
   exact⟨v,fun h' hs=>ZF (hv h' hs),ZB l _ _ H⟩
  ·rw[hw,if_neg (by simp)]
   exact ZB l _ _ H
 | (i,false,⟨d,op,ty,pos,Yf,some (j,b)⟩) :: l,F,h,H=>by
  show (if Zh ops.toArray _ F=true then _ else _)
  rcases Zo ops F d op pos Yf j b H with⟨hw,H⟩|⟨hw,H⟩
  ·rw[if_pos hw]
   exact ZU (fun v h' q=>⟨q.1,ZB l _ _ q.2⟩) H
  ·rw[hw,if_neg (by simp)]
   exact ZB l _ _ H
def Yp (ops:List Oper):List (Nat × Bool)→List (Nat × Bool × Oper)
 | []=>[]
 | (i,q) :: l=>(match nth ops i with|some o=>(i,q,o)|none=>(i,q,default)) :: Yp ops l
theorem VS.b {n:Nat} {N:Env→Hp→Prop} {X:Nat→Env→Hp→Prop} {R:Env→Hp→Prop} {id:Nat} {ops:List Oper} (B:Nat) (l:List (Nat × Bool)) (hm:P.follows .mixedOrders=true) (ZW:YI n ops.toArray l=true)
  (H:W0 P T ops B h N (Yp ops l) F h):VS P n T (.region id ops.toArray true) N X R F h:=by
 refine VS.held (fun h'=>Zg B h h') l hm ZW (Zg.refl _ _) ?_
 have e:Yg ops.toArray l=Yp ops l:=by
  unfold Yg
  have:∀l:List (Nat × Bool),(l.map fun (i,q)=>(i,q,ops.toArray.getD i default))=Yp ops l:=by
   intro l
   induction l with
   | nil=>rfl
   | cons x l ih=>
    obtain⟨i,q⟩:=x
    simp only[List.map_cons,Yp,ih]
    congr 1
    rw[Yt]
    cases hx:ops[i]? with
    | none=>simp[Array.getD_eq_getD_getElem?,hx]
    | some o=>simp[Array.getD_eq_getD_getElem?,hx]
  exact this l
 rw[e]
 exact ZB _ _ _ H
def hK (P:Program) (T:World) (ops:List Oper) (B:Nat) (h0:Hp) (N:Env→Hp→Prop) (l:List (Nat × Bool × Oper)) (F:Env) (d:Option Tmp) (h:Hp):Value→Prop:=fun v=>W0 P T ops B h0 N l (Zi F d v) h
def Km (P:Program) (T:World) (ops:List Oper) (B:Nat) (h0:Hp) (N:Env→Hp→Prop) (l:List (Nat × Bool × Oper)) (F:Env) (d:Option Tmp):Value→Hp→Prop:=fun v h'=>Zg B h0 h'∧W0 P T ops B h0 N l (Zi F d v) h'
section
variable {ops:List Oper} {l:List (Nat × Bool × Oper)} {B:Nat} {h0:Hp} {N:Env→Hp→Prop} {d:Option Tmp} {op:Op} {pos:String} {Yf:Array Edge} {i j:Nat} {b c:Bool} {C:Value→Prop}
@[go_sem] theorem Mo:W0 P T ops B h0 N [] F h=N F h:=rfl
@[go_sem] theorem Kn:W0 P T ops B h0 N ((i,true,⟨d,op,ty,pos,Yf,none⟩) :: l) F h=X1 P T B h0 op ty (hK P T ops B h0 N l F d h) F:=rfl
@[go_sem] theorem Ko:W0 P T ops B h0 N ((i,false,⟨d,op,ty,pos,Yf,none⟩) :: l) F h=Xc P T op ty (Km P T ops B h0 N l F d) F h:=rfl
@[go_sem] theorem M8 {v:Value}:hK P T ops B h0 N l F d h v=W0 P T ops B h0 N l (Zi F d v) h:=rfl
@[go_sem] theorem Mp {v:Value}:Km P T ops B h0 N l F d v h=(Zg B h0 h∧W0 P T ops B h0 N l (Zi F d v) h):=rfl
@[go_sem] theorem Pm:Yp ops []=[]:=rfl
def Kq (ops:List Oper) (i:Nat) (q:Bool) (o:Option Oper) (l:List (Nat × Bool)):List (Nat × Bool × Oper):=(match o with|some o=>(i,q,o)|none=>(i,q,default)) :: Yp ops l
@[go_sem] theorem RW {q:Bool} {l:List (Nat × Bool)}:Yp ops ((i,q) :: l)=Kq ops i q (nth ops i) l:=rfl
@[go_sem] theorem O4 {q:Bool} {o:Oper} {l:List (Nat × Bool)}:Kq ops i q (some o) l=(i,q,o) :: Yp ops l:=rfl
@[go_sem] theorem Kr {v:Value}:(∃u,(∀h':Hp,XM u h' v h')∧ap C u)=C v:=by
 apply propext;constructor
 ·rintro⟨u,hu,H⟩;obtain⟨e,_⟩:=hu #[];subst e;exact H
 ·intro H;exact⟨v,fun _=>⟨rfl,rfl⟩,H⟩
@[go_sem] theorem O5 {t:TypeId} {x:Operand}:X1 P T B h0 (.load t x) ty C F=UQ B h0 (ta P t) (tn P t) (ev F x) C:=rfl
@[go_sem] theorem OC {n:Option Nat} {a:Addr}:UQ B h0 (some false) n (.pointer (some a)) C=if a.block<B then qR (hc h0 a) C else False:=rfl
@[go_sem] theorem PW {n:Nat} {a:Addr}:UQ B h0 (some true) (some n) (.pointer (some a)) C=if a.block<B then qR ((rd h0 a n).map fun l=>.agg l.toArray) C else False:=rfl
@[go_sem] theorem O8 {x:Operand}:X1 P T B h0 (.move x) ty C F=C (ev F x):=Kr
@[go_sem] theorem PX {x:Operand}:X1 P T B h0 (.assign x) ty C F=C (ev F x):=Kr
@[go_sem] theorem OD {t:TypeId} {x:Operand} {i:Nat}:X1 P T B h0 (.fieldAddr t x i) ty C F = ∃v,(∀h':Hp,Xq (tf P t i) (ev F x) (XM v h') h')∧ap C v:=rfl
@[go_sem] theorem M9 {t:TypeId} {x i:Operand}:X1 P T B h0 (.indexAddr t x i) ty C F = ∃v,(∀h':Hp,Pb (Yh P t) (YY P t) (tn P) (ev F x) (ev F i) (XM v h') h')∧ap C v:=rfl
@[go_sem] theorem O9 {x y z:Operand}:X1 P T B h0 (.pick x y z) ty C F = ∃v,(∀h':Hp,QG (ev F x) (ev F y) (ev F z) (XM v h') h')∧ap C v:=rfl
@[go_sem] theorem Mq {x:Operand}:X1 P T B h0 (.nilCheck x) ty C F = ∃v,(∀h':Hp,Wj (ev F x) (XM v h') h')∧ap C v:=rfl
@[go_sem] theorem Mr {op:BinOp} {t t':TypeId} {x y:Operand}:X1 P T B h0 (.binOp op t x y t') ty C F = ∃v,(∀h':Hp,Zt P op t x y (ev F x) (ev F y) (XM v h') h')∧ap C v:=rfl
@[go_sem] theorem La {op:UnOp} {t:TypeId} {x:Operand}:X1 P T B h0 (.unOp op t x) ty C F = ∃v,(∀h':Hp,Ox P op (ev F x) (XM v h') h')∧ap C v:=rfl
@[go_sem] theorem Na {s t:TypeId} {x:Operand}:X1 P T B h0 (.convert s t x) ty C F = ∃v,(∀h':Hp,YZ P s t (ev F x) (XM v h') h')∧ap C v:=rfl
@[go_sem] theorem OE {t:TypeId} {parts:Array (Nat × Operand)}:X1 P T B h0 (.build t parts) ty C F = ∃v,(∀h':Hp,Xr (tz P t) (Ov P t) (Yh P t) (tn P) (Wk F parts.toList) (XM v h') h')∧ap C v:=rfl
@[go_sem] theorem Lb {b:Builtin} {args:Array Operand} {ts:Array TypeId}:X1 P T B h0 (.call ⟨.builtin b,args,ts⟩) ty C F =
  ∃v,(∀h':Hp,Ql P T b ts ty (args.map fun|.const _=>true|_=>false) (TN F args.toList) (XM v h') h')∧ap C v:=rfl
end
attribute [go_sem] Array.size_setIfInBounds
theorem JK {l:List Value} {t:TypeId} {b:Nat} (hr:h[b]? = some (.cells l.toArray t)) (o:Nat) (v:Value):We h ⟨b,o,none⟩ v=if o<l.length∧YW v=true then some (h.setIfInBounds b (.cells (l.set o v).toArray t)) else none:=by
 unfold We
 simp only[hr,List.size_toArray,Nat.le_refl,true_and,List.setIfInBounds_toArray]
theorem Zg.get {B:Nat} {h0 h1:Hp} (b:Zg B h0 h1) {k:Nat} {o:Obj} (hk:k<B) (h:h0[k]? = some o):h1[k]? = some o:=(b.block k hk).trans h
theorem Zq {o:Obj}:(h.push o)[h.size]? = some o:=by simp
theorem Zu {o:Obj} {b:Nat} (hb:b<h.size):(h.push o)[b]? = h[b]?:=by rw[Array.getElem?_push,if_neg (by omega)]
end
section
variable {P:Program} {h:Hp}
def Nb (s:Option Bool) (n:Option Nat) (a:Addr) (h:Hp):Option Value:=
 match s,n with
 | some false,_=>hc h a
 | some true,some n=>(rd h a n).map fun l=>.agg l.toArray
 | _,_=>none
theorem UR {t:TypeId} {b:Bool} (hb:ta P t=some b):hr P (isAgg t) h=some b:=by
 unfold ta at hb
 cases hi:P.underlying t with
 | none=>rw[hi]at hb;cases hb
 | some d=>
  rw[hi]at hb
  simp only[Option.map_some,Option.some.injEq]at hb
  subst hb
  unfold isAgg underlying
  rw[ZL,ZL]
  show ((hr P (match P.underlying t with|some d=>pure d|none=>stuck "no such type") h).bind fun a=>hr P (match a with|.struct _=>pure true|.array _ _=>pure true|_=>pure false) h)=_
  rw[hi]
  cases d<;>rfl
theorem TD {t:TypeId} {n:Nat} (hn:tn P t=some n):hr P (sizeOf t) h=some n:=by
 unfold tn at hn
 cases hi:P.info? t with
 | none=>rw[hi]at hn;cases hn
 | some i=>
  rw[hi]at hn
  simp only[Option.map_some,Option.some.injEq]at hn
  subst hn
  unfold sizeOf typeInfo
  rw[ZL,ZL]
  show ((hr P (match P.info? t with|some d=>pure d|none=>stuck "no such type") h).bind fun a=>hr P (pure a.size) h)=_
  rw[hi]
  rfl
theorem Q9 (a:Addr) (c:List Value):∀(n i:Nat) (acc:Array Value),(∀j,j<n→hc h (a.add (i+j))=some (c.getD j undef))→n=c.length→hr P (loadCellsFrom a i n acc) h=some (acc++c.toArray):=by
 induction c with
 | nil=>intro n i acc _ hn;subst hn;simp[loadCellsFrom,pure,hr]
 | cons v c ih=>
  intro n i acc hj hn
  subst hn
  show hr P (load (a.add i) >>= fun v=>loadCellsFrom a (i+1) c.length (acc.push v)) h=_
  rw[ZL]
  have e:hr P (load (a.add i)) h=some v:=by
   have:=hj 0 (by simp)
   rw[Nat.add_zero]at this
   show (hc h (a.add i)).bind _=_
   rw[this];rfl
  rw[e,Option.bind_some,ih _ (i+1) _ (fun j Mi=>?_) rfl]
  ·simp
  ·have:=hj (j+1) (by simp;omega)
   have e:i+(j+1)=i+1+j:=by omega
   rw[e]at this
   simpa using this
@[go_sem] theorem W2 {t:TypeId} {a:Addr} (hs:(Nb (ta P t) (tn P t) a h).isSome=true):XD P t (.pointer (some a)) h=Nb (ta P t) (tn P t) a h:=by
 unfold XD
 show hr P (loadVar t a) h=_
 unfold loadVar
 rw[ZL]
 unfold Nb at hs ⊢
 split at hs
 ·rename_i ht
  rw[UR ht,Option.bind_some,if_neg (by simp)]
  show (hc h a).bind (fun v=>some v)=hc h a
  cases hc h a<;>rfl
 ·rename_i n ht hn
  rw[UR ht,Option.bind_some,if_pos rfl,ZL,TD hn,Option.bind_some,ZL]
  cases hl:rd h a n with
  | none=>rw[hl]at hs;cases hs
  | some l=>
   unfold rd at hl
   split at hl
   ·rename_i c e fr hb
    split at hl
    ·rename_i XI
     obtain⟨h1,h2⟩:=XI
     simp only[Option.some.injEq]at hl
     subst hl
     have hlen:((c.toList.drop a.off).take n).length=n:=by simp;omega
     have:=Q9 (P:=P) (h:=h) a ((c.toList.drop a.off).take n) n 0 #[] (fun j hj=>by
      rw[Y8 a _ h1]
      unfold hc
      rw[hb]
      simp only[Option.isSome_none,Bool.false_eq_true,if_false]
      rw[List.getD_eq_getElem?_getD,List.getElem?_take,if_pos hj,List.getElem?_drop]
      have e:a.off+(0+j)=a.off+j:=by omega
      rw[e]
      simp
      rw[Array.getElem?_eq_getElem (by omega)];rfl) hlen.symm
     unfold loadCells
     rw[this,Option.bind_some]
     show some (Value.agg (#[]++_))=_
     simp
    ·cases hl
   ·cases hl
 ·cases hs
end
theorem Zg.YG {B:Nat} {h h':Hp} (a:Zg B h h') {b:Nat} (hb:B≤b) (o:Obj):Zg B h (h'.setIfInBounds b o):=a.trans (Zg.set hb o)
attribute [go_sem] Nat.sub_zero
theorem Xg.open {B:Nat} {E:TypeId} {h:Hp} {v:Value} {l:List Nat} (s:Xg B E h v l):∃p c,v=.slice p l.length c∧l.length≤c:=by
 rcases s.own with⟨⟨p,rfl⟩,hm,_⟩|⟨b,cap,spare,_,rfl,_,_,_,hc⟩
 ·exact⟨p,0,by rw[hm],by omega⟩
 ·exact⟨_,cap,rfl,hc⟩
end Go.V

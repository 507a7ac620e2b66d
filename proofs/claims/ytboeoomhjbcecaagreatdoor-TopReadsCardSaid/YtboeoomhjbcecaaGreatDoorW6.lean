/- W5: a region that draws its order and holds a call or a store: all that only reads is read first, of what lay there when it began. -/
import Derived.Test.YtboeoomhjbcecaaGreatDoorW4
namespace Go.V
set_option linter.unusedVariables false
set_option linter.unusedSimpArgs false
section
variable {P:Program} {T:World} {K:Value→Hp→Prop} {F:Env} {h:Hp} {ty:TypeId}
def E8 (B:Nat) (h0:Hp) (s:Option Bool) (n:Option Nat) (p:Value) (C:Value→Prop):Prop:=
 match p with
 | .pointer (some a)=>if a.block<B then (match s,n with
  | some false,_=>qR (hc h0 a) C
  | some true,some n=>qR ((rd h0 a n).map fun l=>.agg l.toArray) C
  | _,_=>False) else False
 | _=>False
def VK (P:Program) (T:World) (B:Nat) (h0:Hp) (op:Op) (ty:TypeId) (C:Value→Prop) (F:Env):Prop:=
 match op with
 | .load t x=>E8 B h0 (ta P t) (tn P t) (ev F x) C
 | op=>∃v,(∀h',WQ P T op ty (SU v h') F h')∧ap C v
def AB (P:Program) (T:World) (ops:List Oper) (B:Nat) (h0:Hp) (N:Env→Hp→Prop):List (Nat × Bool × Oper)→Env→Hp→Prop
 | [],F,h=>N F h
 | (_,true,⟨d,op,ty,_,_,none⟩) :: l,F,h=>VK P T B h0 op ty (fun v=>AB P T ops B h0 N l (Z3 F d v) h) F
 | (_,false,⟨d,op,ty,_,_,none⟩) :: l,F,h=>WQ P T op ty (fun v h'=>Zf B h0 h'∧AB P T ops B h0 N l (Z3 F d v) h') F h
 | (_,true,⟨d,op,ty,_,_,some (j,b)⟩) :: l,F,h=>XI (QX ops F j) b (VK P T B h0 op ty (fun v=>AB P T ops B h0 N l (Z3 F d v) h) F) (AB P T ops B h0 N l (Z3 F d undef) h)
 | (_,false,⟨d,op,ty,_,_,some (j,b)⟩) :: l,F,h=>XI (QX ops F j) b (WQ P T op ty (fun v h'=>Zf B h0 h'∧AB P T ops B h0 N l (Z3 F d v) h') F h) (AB P T ops B h0 N l (Z3 F d undef) h)
theorem JQ {B:Nat} {h0 h':Hp} (b:Zf B h0 h') {a:Addr} (ha:a.block<B) (n:Nat):rd h' a n=rd h0 a n:=by unfold rd;rw[b.block _ ha]
theorem M3 {c p:Prop} [Decidable c]:(if c then p else False)=(c∧p):=by
 by_cases hc:c<;>simp[hc]
theorem U1 {B:Nat} {h0:Hp} {op:Op} {C:Value→Prop} (H:VK P T B h0 op ty C F):∃v,(∀h',Zf B h0 h'→WQ P T op ty (fun v' Nj=>v'=v∧Nj=h') F h')∧C v:=by
 unfold VK at H;split at H
 ·rename_i t x;unfold E8 at H;split at H
  ·rename_i a ha;rw[M3]at H;obtain⟨hb,H⟩:=H;split at H
   ·rename_i hs;unfold qR at H;split at H
    ·rename_i v hv;refine⟨v,fun h' Fh=>?_,H⟩;show PV (ta P t) (tn P t) (ev F x) _ h';rw[hs,ha];rw[HM,Fh.hc hb,hv];exact⟨rfl,rfl⟩
    ·exact H.elim
   ·rename_i n hs hn;unfold qR at H;split at H
    ·rename_i v hv;refine⟨v,fun h' Fh=>?_,H⟩;show PV (ta P t) (tn P t) (ev F x) _ h';rw[hs,hn,ha];rw[L9,JQ Fh hb]
     cases hr:rd h0 a n with
     | none=>rw[hr]at hv;cases hv
     | some l=>
      rw[hr]at hv;simp only[Option.map_some,Option.some.injEq]at hv;subst hv;exact⟨rfl,rfl⟩
    ·exact H.elim
   ·exact H.elim
  ·exact H.elim
 ·obtain⟨v,hv,hc⟩:=H;exact⟨v,fun h' _=>hv h',hc⟩
theorem Jd {ops:List Oper} {B:Nat} {h0:Hp} {N:Env→Hp→Prop}:∀(l:List (Nat × Bool × Oper)) (F:Env) (h:Hp),AB P T ops B h0 N l F h→PS P T ops.toArray (fun h'=>Zf B h0 h') N l F h
 | [],F,h,H=>H
 | (i,true,⟨d,op,ty,pos,Up,none⟩) :: l,F,h,H=>by
  show (if Z8 ops.toArray _ F=true then _ else _);rw[if_pos (by rfl)];obtain⟨v,hv,H⟩:=U1 H;exact⟨v,fun h' hs=>Jz (hv h' hs),Jd l _ _ H⟩
 | (i,false,⟨d,op,ty,pos,Up,none⟩) :: l,F,h,H=>by
  show (if Z8 ops.toArray _ F=true then _ else _);rw[if_pos (by rfl)];exact Qm (fun v h' q=>⟨q.1,Jd l _ _ q.2⟩) H
 | (i,true,⟨d,op,ty,pos,Up,some (j,b)⟩) :: l,F,h,H=>by
  show (if Z8 ops.toArray _ F=true then _ else _);rcases Y3 ops F d op pos Up j b H with⟨hw,H⟩|⟨hw,H⟩
  ·rw[if_pos hw];obtain⟨v,hv,H⟩:=U1 H;exact⟨v,fun h' hs=>Jz (hv h' hs),Jd l _ _ H⟩
  ·rw[hw,if_neg (by simp)];exact Jd l _ _ H
 | (i,false,⟨d,op,ty,pos,Up,some (j,b)⟩) :: l,F,h,H=>by
  show (if Z8 ops.toArray _ F=true then _ else _);rcases Y3 ops F d op pos Up j b H with⟨hw,H⟩|⟨hw,H⟩
  ·rw[if_pos hw];exact Qm (fun v h' q=>⟨q.1,Jd l _ _ q.2⟩) H
  ·rw[hw,if_neg (by simp)];exact Jd l _ _ H
def UR (ops:List Oper):List (Nat × Bool)→List (Nat × Bool × Oper)
 | []=>[]
 | (i,q) :: l=>(match nth ops i with|some o=>(i,q,o)|none=>(i,q,default)) :: UR ops l
theorem VS.b {n:Nat} {N:Env→Hp→Prop} {X:Nat→Env→Hp→Prop} {R:Env→Hp→Prop} {id:Nat} {ops:List Oper} (B:Nat) (l:List (Nat × Bool)) (hm:P.follows .mixedOrders=true) (J2:VL n ops.toArray l=true)
  (H:AB P T ops B h N (UR ops l) F h):VS P n T (.region id ops.toArray true) N X R F h:=by
 refine VS.held (fun h'=>Zf B h h') l hm J2 (Zf.refl _ _) ?_;have e:UF ops.toArray l=UR ops l:=by
  unfold UF;have:∀l:List (Nat × Bool),(l.map fun (i,q)=>(i,q,ops.toArray.getD i default))=UR ops l:=by
   intro l
   induction l with
   | nil=>rfl
   | cons x l ih=>
    obtain⟨i,q⟩:=x;simp only[List.map_cons,UR,ih]
    congr 1
    rw[Yh]
    cases hx:ops[i]? with
    | none=>simp[Array.getD_eq_getD_getElem?,hx]
    | some o=>simp[Array.getD_eq_getD_getElem?,hx]
  exact this l
 rw[e];exact Jd _ _ _ H
def hK (P:Program) (T:World) (ops:List Oper) (B:Nat) (h0:Hp) (N:Env→Hp→Prop) (l:List (Nat × Bool × Oper)) (F:Env) (d:Option Tmp) (h:Hp):Value→Prop:=fun v=>AB P T ops B h0 N l (Z3 F d v) h
def hKs (P:Program) (T:World) (ops:List Oper) (B:Nat) (h0:Hp) (N:Env→Hp→Prop) (l:List (Nat × Bool × Oper)) (F:Env) (d:Option Tmp):Value→Hp→Prop:=fun v h'=>Zf B h0 h'∧AB P T ops B h0 N l (Z3 F d v) h'
section
variable {ops:List Oper} {l:List (Nat × Bool × Oper)} {B:Nat} {h0:Hp} {N:Env→Hp→Prop} {d:Option Tmp} {op:Op} {pos:String} {Up:Array Edge} {i j:Nat} {b c:Bool} {C:Value→Prop}
@[go_sem] theorem Zh4:AB P T ops B h0 N [] F h=N F h:=rfl
@[go_sem] theorem Zrv:AB P T ops B h0 N ((i,true,⟨d,op,ty,pos,Up,none⟩) :: l) F h=VK P T B h0 op ty (hK P T ops B h0 N l F d h) F:=rfl
@[go_sem] theorem Zrw:AB P T ops B h0 N ((i,false,⟨d,op,ty,pos,Up,none⟩) :: l) F h=WQ P T op ty (hKs P T ops B h0 N l F d) F h:=rfl
@[go_sem] theorem Zlb {v:Value}:hK P T ops B h0 N l F d h v=AB P T ops B h0 N l (Z3 F d v) h:=rfl
@[go_sem] theorem Zh5 {v:Value}:hKs P T ops B h0 N l F d v h=(Zf B h0 h∧AB P T ops B h0 N l (Z3 F d v) h):=rfl
@[go_sem] theorem ze:UR ops []=[]:=rfl
def inO (ops:List Oper) (i:Nat) (q:Bool) (o:Option Oper) (l:List (Nat × Bool)):List (Nat × Bool × Oper):=(match o with|some o=>(i,q,o)|none=>(i,q,default)) :: UR ops l
@[go_sem] theorem uV {q:Bool} {l:List (Nat × Bool)}:UR ops ((i,q) :: l)=inO ops i q (nth ops i) l:=rfl
@[go_sem] theorem Zes {q:Bool} {o:Oper} {l:List (Nat × Bool)}:inO ops i q (some o) l=(i,q,o) :: UR ops l:=rfl
@[go_sem] theorem hEq {v:Value}:(∃u,(∀h':Hp,SU u h' v h')∧ap C u)=C v:=by
 apply propext;constructor
 ·rintro⟨u,hu,H⟩;obtain⟨e,_⟩:=hu #[];subst e;exact H
 ·intro H;exact⟨v,fun _=>⟨rfl,rfl⟩,H⟩
@[go_sem] theorem Zet {t:TypeId} {x:Operand}:VK P T B h0 (.load t x) ty C F=E8 B h0 (ta P t) (tn P t) (ev F x) C:=rfl
@[go_sem] theorem Zdl {n:Option Nat} {a:Addr}:E8 B h0 (some false) n (.pointer (some a)) C=if a.block<B then qR (hc h0 a) C else False:=rfl
@[go_sem] theorem ZaV {n:Nat} {a:Addr}:E8 B h0 (some true) (some n) (.pointer (some a)) C=if a.block<B then qR ((rd h0 a n).map fun l=>.agg l.toArray) C else False:=rfl
@[go_sem] theorem Zeu {x:Operand}:VK P T B h0 (.move x) ty C F=C (ev F x):=hEq
@[go_sem] theorem ZaW {x:Operand}:VK P T B h0 (.assign x) ty C F=C (ev F x):=hEq
@[go_sem] theorem Zdm {t:TypeId} {x:Operand} {i:Nat}:VK P T B h0 (.fieldAddr t x i) ty C F = ∃v,(∀h':Hp,RT (tf P t i) (ev F x) (SU v h') h')∧ap C v:=rfl
@[go_sem] theorem Zlc {t:TypeId} {x i:Operand}:VK P T B h0 (.indexAddr t x i) ty C F = ∃v,(∀h':Hp,yU (YF P t) (JI P t) (tn P) (ev F x) (ev F i) (SU v h') h')∧ap C v:=rfl
@[go_sem] theorem Zev {x y z:Operand}:VK P T B h0 (.pick x y z) ty C F = ∃v,(∀h':Hp,HJ (ev F x) (ev F y) (ev F z) (SU v h') h')∧ap C v:=rfl
@[go_sem] theorem Zh6 {x:Operand}:VK P T B h0 (.nilCheck x) ty C F = ∃v,(∀h':Hp,BH (ev F x) (SU v h') h')∧ap C v:=rfl
@[go_sem] theorem Zh7 {op:BinOp} {t t':TypeId} {x y:Operand}:VK P T B h0 (.binOp op t x y t') ty C F = ∃v,(∀h':Hp,Xa P op t x y (ev F x) (ev F y) (SU v h') h')∧ap C v:=rfl
@[go_sem] theorem Zld {op:UnOp} {t:TypeId} {x:Operand}:VK P T B h0 (.unOp op t x) ty C F = ∃v,(∀h':Hp,vUn P op (ev F x) (SU v h') h')∧ap C v:=rfl
@[go_sem] theorem Zew {s t:TypeId} {x:Operand}:VK P T B h0 (.convert s t x) ty C F = ∃v,(∀h':Hp,PW P s t (ev F x) (SU v h') h')∧ap C v:=rfl
@[go_sem] theorem zf {x:Operand} {i:Nat}:VK P T B h0 (.extract x i) ty C F = ∃v,(∀h':Hp,Un (ev F x) i (SU v h') h')∧ap C v:=rfl
@[go_sem] theorem Zh8 {t:TypeId} {x:Operand} {lo hi mx:Option Operand}:VK P T B h0 (.slice t x lo hi mx) ty C F = ∃v,(∀h':Hp,IZ (YF P t) (JI P t) (Um P t) (tn P) (ev F x) (dg F lo) (dg F hi) (dg F mx) (SU v h') h')∧ap C v:=rfl
@[go_sem] theorem Zdn {t:TypeId} {parts:Array (Nat × Operand)}:VK P T B h0 (.build t parts) ty C F = ∃v,(∀h':Hp,RU (tz P t) (Rk P t) (YF P t) (tn P) (BI F parts.toList) (SU v h') h')∧ap C v:=rfl
@[go_sem] theorem Zle {b:Builtin} {args:Array Operand} {ts:Array TypeId}:VK P T B h0 (.call ⟨.builtin b,args,ts⟩) ty C F =
  ∃v,(∀h':Hp,T9 P T b ts ty (args.map fun|.const _=>true|_=>false) (fR F args.toList) (SU v h') h')∧ap C v:=rfl
end
@[go_sem] theorem Zlf {l:List Value} {t:TypeId} {b b' o:Nat}:hc (h.setIfInBounds b (.cells l.toArray t)) ⟨b',o,none⟩=if b'=b then (if b<h.size then nth l o else none) else hc h ⟨b',o,none⟩:=by
 unfold hc;simp only[Array.getElem?_setIfInBounds];by_cases hb:b=b'
 ·subst hb;by_cases hs:b<h.size
  ·simp[hs,Yh]
  ·simp[hs]
 ·have XH:¬b'=b:=fun e=>hb e.symm;simp[hb,XH]
@[go_sem] theorem Zlg {l:List Value} {t:TypeId} {b b' o n:Nat}:rd (h.setIfInBounds b (.cells l.toArray t)) ⟨b',o,none⟩ n=if b'=b then (if b<h.size then (if o+n≤l.length then some ((l.drop o).take n) else none) else none) else rd h ⟨b',o,none⟩ n:=by
 unfold rd;simp only[Array.getElem?_setIfInBounds];by_cases hb:b=b'
 ·subst hb;by_cases hs:b<h.size
  ·simp[hs]
  ·simp[hs]
 ·have XH:¬b'=b:=fun e=>hb e.symm;simp[hb,XH]
attribute [go_sem] Array.size_setIfInBounds
theorem ZU {l:List Value} {t:TypeId} {b:Nat} (hr:h[b]? = some (.cells l.toArray t)) (o:Nat) (vs:List Value):wr h ⟨b,o,none⟩ vs=if o+vs.length≤l.length∧vs.all Z7=true then some (h.setIfInBounds b (.cells (Yw l o vs).toArray t)) else none:=by
 unfold wr;simp only[hr,List.size_toArray,Nat.le_refl,true_and]
theorem YC {l:List Value} {t:TypeId} {b:Nat} (hr:h[b]? = some (.cells l.toArray t)) (o:Nat) (v:Value):JJ h ⟨b,o,none⟩ v=if o<l.length∧Z7 v=true then some (h.setIfInBounds b (.cells (l.set o v).toArray t)) else none:=by
 unfold JJ;simp only[hr,List.size_toArray,Nat.le_refl,true_and,List.setIfInBounds_toArray]
theorem Zf.get {B:Nat} {h0 h1:Hp} (b:Zf B h0 h1) {k:Nat} {o:Obj} (hk:k<B) (h:h0[k]? = some o):h1[k]? = some o:=(b.block k hk).trans h
theorem Zb {o:Obj}:(h.push o)[h.size]? = some o:=by simp
theorem Zt {o:Obj} {b:Nat} (hb:b<h.size):(h.push o)[b]? = h[b]?:=by rw[Array.getElem?_push,if_neg (by omega)]
end
section
variable {P:Program} {h:Hp}
def rvF (s:Option Bool) (n:Option Nat) (a:Addr) (h:Hp):Option Value:=
 match s,n with
 | some false,_=>hc h a
 | some true,some n=>(rd h a n).map fun l=>.agg l.toArray
 | _,_=>none
@[go_sem] theorem Zex {n:Nat} {a:Addr}:rvF (some true) (some n) a h=(rd h a n).map fun l=>.agg l.toArray:=rfl
theorem E9 {t:TypeId} {b:Bool} (hb:ta P t=some b):hr P (isAgg t) h=some b:=by
 unfold ta at hb
 cases hi:P.underlying t with
 | none=>rw[hi]at hb;cases hb
 | some d=>
  rw[hi]at hb;simp only[Option.map_some,Option.some.injEq]at hb;subst hb;unfold isAgg underlying;rw[JG,JG];show ((hr P (match P.underlying t with|some d=>pure d|none=>stuck "no such type") h).bind fun a=>hr P (match a with|.struct _=>pure true|.array _ _=>pure true|_=>pure false) h)=_
  rw[hi]
  cases d<;>rfl
theorem gU {t:TypeId} {n:Nat} (hn:tn P t=some n):hr P (sizeOf t) h=some n:=by
 unfold tn at hn
 cases hi:P.info? t with
 | none=>rw[hi]at hn;cases hn
 | some i=>
  rw[hi]at hn;simp only[Option.map_some,Option.some.injEq]at hn;subst hn;unfold sizeOf typeInfo;rw[JG,JG];show ((hr P (match P.info? t with|some d=>pure d|none=>stuck "no such type") h).bind fun a=>hr P (pure a.size) h)=_
  rw[hi];rfl
theorem Fi (a:Addr) (c:List Value):∀(n i:Nat) (acc:Array Value),(∀j,j<n→hc h (a.add (i+j))=some (c.getD j undef))→n=c.length→hr P (loadCellsFrom a i n acc) h=some (acc++c.toArray):=by
 induction c with
 | nil=>intro n i acc _ hn;subst hn;simp[loadCellsFrom,pure,hr]
 | cons v c ih=>
  intro n i acc hj hn;subst hn;show hr P (load (a.add i) >>= fun v=>loadCellsFrom a (i+1) c.length (acc.push v)) h=_;rw[JG];have e:hr P (load (a.add i)) h=some v:=by
   have:=hj 0 (by simp);rw[Nat.add_zero]at this;show (hc h (a.add i)).bind _=_;rw[this];rfl
  rw[e,Option.bind_some,ih _ (i+1) _ (fun j BL=>?_) rfl]
  ·simp
  ·have:=hj (j+1) (by simp;omega);have e:i+(j+1)=i+1+j:=by omega
   rw[e]at this
   simpa using this
@[go_sem] theorem AD {t:TypeId} {a:Addr} (hs:(rvF (ta P t) (tn P t) a h).isSome=true):PT P t (.pointer (some a)) h=rvF (ta P t) (tn P t) a h:=by
 unfold PT;show hr P (loadVar t a) h=_;unfold loadVar;rw[JG];unfold rvF at hs ⊢;split at hs
 ·rename_i ht;rw[E9 ht,Option.bind_some,if_neg (by simp)];show (hc h a).bind (fun v=>some v)=hc h a
  cases hc h a<;>rfl
 ·rename_i n ht hn;rw[E9 ht,Option.bind_some,if_pos rfl,JG,gU hn,Option.bind_some,JG]
  cases hl:rd h a n with
  | none=>rw[hl]at hs;cases hs
  | some l=>
   unfold rd at hl;split at hl
   ·rename_i c e fr hb;split at hl
    ·rename_i PZ;obtain⟨h1,h2⟩:=PZ;simp only[Option.some.injEq]at hl;subst hl;have hlen:((c.toList.drop a.off).take n).length=n:=by simp;omega
     have:=Fi (P:=P) (h:=h) a ((c.toList.drop a.off).take n) n 0 #[] (fun j hj=>by
      rw[SP a _ h1];unfold hc;rw[hb];simp only[Option.isSome_none,Bool.false_eq_true,if_false];rw[List.getD_eq_getElem?_getD,List.getElem?_take,if_pos hj,List.getElem?_drop];have e:a.off+(0+j)=a.off+j:=by omega
      rw[e];simp;rw[Array.getElem?_eq_getElem (by omega)];rfl) hlen.symm
     unfold loadCells;rw[this,Option.bind_some];show some (Value.agg (#[]++_))=_;simp
    ·cases hl
   ·cases hl
 ·cases hs
end
theorem Qv.ZP {B:Nat} {E:TypeId} {n:Nat} {h:Hp} {v:Value} {m:Nat} {cs:List Value} (s:Qv B E n h v m cs) {b:Nat} (hb:b<B) (o:Obj):Qv B E n (h.setIfInBounds b o) v m cs:=by
 rcases s with s|⟨b',cap,spare,hB,rfl,hg,r⟩
 ·exact .inl s
 ·exact .inr ⟨b',cap,spare,hB,rfl,by rw[Array.getElem?_setIfInBounds,if_neg (by omega)];exact hg,r⟩
theorem Z0.ZP {B:Nat} {E:TypeId} {h:Hp} {v:Value} {l:List Nat} (s:Z0 B E h v l) {b:Nat} (hb:b<B) (o:Obj):Z0 B E (h.setIfInBounds b o) v l:=⟨s.own.ZP hb o,s.byte⟩
theorem Zf.Zm {B:Nat} {h h':Hp} (a:Zf B h h') {b:Nat} (hb:B≤b) (o:Obj):Zf B h (h'.setIfInBounds b o):=a.trans (Zf.set hb o)
@[go_sem] theorem ZaY {K:Value→Hp→Prop} {h:Hp} {a:Option Addr} {n cap b:Nat}:Rx a n cap b (some 0) K h=K (.slice a b cap) h:=by
 have e:(if cap=0 then a else a.map (·.add (0*n)))=a:=by
  split
  ·rfl
  ·rw[Nat.zero_mul];cases a<;>simp[Addr.add]
 simp only[Rx,e,Nat.sub_zero]
theorem Sl.Rl {h:Hp} {p:Option Addr} {k c:Nat} {cs:List Value} (s:Sl 1 h (.slice p k c) k cs) {m:Nat} (hm:m≤k) (c':Nat):Sl 1 h (.slice p m c') m (cs.take m):=by
 obtain⟨p',cap,hv,hl,hc⟩:=s;simp only[Value.slice.injEq]at hv;obtain⟨rfl,_,rfl⟩:=hv;refine⟨p,c',rfl,by rw[List.length_take];omega,fun YA=>?_⟩;obtain⟨b,o,rfl,YS⟩:=hc (by intro e;subst e;simp at YA);refine⟨b,o,rfl,fun i hi=>?_⟩;have Da:i<cs.length:=by rw[List.length_take]at hi;omega
 rw[YS i Da];simp
theorem Bs.Rl {h:Hp} {p:Option Addr} {c:Nat} {l:List Nat} (s:Bs h (.slice p l.length c) l) {m:Nat} (hm:m≤l.length) (c':Nat):Bs h (.slice p m c') (l.take m):=by
 have:=s.sl.Rl hm c';rw[←List.map_take]at this;exact⟨by rw[List.length_take,Nat.min_eq_left hm];exact this,fun x hx=>s.byte x (List.mem_of_mem_take hx)⟩
attribute [go_sem] Nat.sub_zero
theorem Z0.open {B:Nat} {E:TypeId} {h:Hp} {v:Value} {l:List Nat} (s:Z0 B E h v l):∃p c,v=.slice p l.length c∧l.length≤c:=by
 rcases s.own with⟨⟨p,rfl⟩,hm,_⟩|⟨b,cap,spare,_,rfl,_,_,_,hc⟩
 ·exact⟨p,0,by rw[hm],by omega⟩
 ·exact⟨_,cap,rfl,hc⟩
def VR:Value→Prop
 | .slice _ m c=>m≤c
 | _=>True
theorem Z0.cap {B:Nat} {E:TypeId} {h:Hp} {v:Value} {l:List Nat} (s:Z0 B E h v l):VR v:=by
 obtain⟨p,c,rfl,hc⟩:=s.open;exact hc
theorem Zf.pp {B:Nat} {h:Hp} (hB:B≤h.size) (a b:Obj):Zf B (h.push a) (h.push b):=
 ⟨by simp,fun k hk=>by rw[Array.getElem?_push,Array.getElem?_push,if_neg (by omega),if_neg (by omega)]⟩
end Go.V

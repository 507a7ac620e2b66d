/- Part W3. -/
import Derived.Test.YtdapjaalaomghaaGreatDoorV9
open Go.Value renaming agg→B,bool→H
open List renaming length→p,eq_nil_of_length_eq_zero→D,drop_drop→G,length_take→R,length_drop→S,take_append_drop→U,drop_zero→W,length_cons→Y,length_nil→aa,forIn_cons→ae,headD_cons→al
open Nat renaming add_mul→O,one_mul→Z
open Option renaming map_some→ab,some→A,none→J
open Bool renaming false_eq_true→M,and_eq_true→X,not_false→am,false_and→ao,not_true→aq,true_and→aw
open Go renaming Value→u,TypeId→E,Program→L
namespace Go.V
set_option linter.all false
variable{P:L}{ks:List (Option IntKind)}{t:E}
theorem CS{h:Hp}{k:Nat}{cs:List u}{i:IntKind}(ht:P.underlying t=A (.int i))(hf:fit P h k t cs):∃n,cs=[.int i n]/\(Lit.int i n).wf=true:=by
 cases k with
 | zero=>exact hf.elim
 | succ k=>unfold fit at hf;rw[ht]at hf;exact hf
theorem gS{h:Hp}{k:Nat}{cs:List u}{fs:Array Field}(ht:P.underlying t=A (.struct fs))(hf:fit P h k t cs):
  (p cs)=P.cellsOf t/\∀(i:Nat) (f:Field),fs[i]? = A f->∃k,fit P h k f.type ((cs.drop f.offset).take (P.cellsOf f.type)):=by
 cases k with
 | zero=>exact hf.elim
 | succ k=>
  unfold fit at hf;rw[ht]at hf;exact⟨hf.1,fun i f hi=>⟨k,hf.2 f (by have:=Array.mem_of_getElem? hi;simpa using this)⟩⟩
theorem pE{h:Hp}{k:Nat}{e:E}{n:Nat}{cs:List u}(ht:P.underlying t=A (.array n e))(hf:fit P h k t cs):
  (p cs)=P.cellsOf t/\∀i,i<n->∃k,fit P h k e ((cs.drop (i*P.cellsOf e)).take (P.cellsOf e)):=by
 cases k with
 | zero=>exact hf.elim
 | succ k=>
  unfold fit at hf;rw[ht]at hf;exact⟨hf.1,fun i hi=>⟨k,hf.2 i hi⟩⟩
def ZU{α:Type}(enc:α->List u):List α->List u
 | []=>[]
 | x :: l=>enc x++ZU enc l
theorem Y6{α:Type}(enc:α->List u)(l k:List α):ZU enc (l++k)=ZU enc l++ZU enc k:=by
 induction l with
 | nil=>rfl
 | cons x l ih=>simp[ZU,ih]
theorem UV{α:Type}{enc:α->List u}{n:Nat}(Vl:∀x,(enc x).length=n)(l:List α):(ZU enc l).length=(p l)*n:=by
 induction l with
 | nil=>simp[ZU]
 | cons x l ih=>simp[ZU,ih,Vl,O,Nat.add_comm]
theorem Tq{α:Type}(f:α->u)(l:List α):ZU (fun x=>[f x]) l=l.map f:=by
 induction l with
 | nil=>rfl
 | cons x l ih=>simp[ZU,ih]
theorem wf_i64{n:Int}(h:(Lit.int .i64 n).wf=true): -9223372036854775808<=n/\n<=9223372036854775807:=by
 simp[Lit.wf,IntKind.min,IntKind.max,IntKind.signed,IntKind.bits]at h;omega
theorem fitAll_nil{h:Hp}{vs:List u}(hf:fitAll P h [] vs):vs=[]:=by
 cases vs with
 | nil=>rfl
 | cons a l=>exact hf.elim
theorem fitAll_cons{h:Hp}{ts:List E}{vs:List u}(hf:fitAll P h (t :: ts) vs):∃v l,vs=v :: l/\(∃k,CR P h k t v)/\fitAll P h ts l:=by
 cases vs with
 | nil=>exact hf.elim
 | cons a l=>exact⟨a,l,rfl,hf.1,hf.2⟩
theorem af{h:Hp}{k:Nat}{v:u}(ha:ta P t=A false)(hf:CR P h k t v):fit P h k t [v]:=by
 unfold CR at hf;rw[ha]at hf;exact hf
theorem ww{h:Hp}{k:Nat}{v:u}(ha:ta P t=A true)(hf:CR P h k t v):∃cs:List u,v=B cs.toArray/\fit P h k t cs:=by
 unfold CR at hf;rw[ha]at hf;exact hf
section
variable {P:L} {T:World} {K:u->Hp->Prop} {h:Hp}
end
def Kj(P:L)(g:E->Option (List (Option IntKind))):List Field->Nat->Option (List (Option IntKind))
 | [],_=>A []
 | f :: fs,o=>match g f.type with
  | some l=>if f.name ≠ "_" /\ f.offset=o/\tn P f.type=A (p l) then (Kj P g fs (o+(p l))).map (l ++ ·) else J
  | none=>J
def rep{α:Type}:Nat->List α->List α
 | 0,_=>[]
 | n+1,l=>l++rep n l
def flat(P:L):Nat->E->Option (List (Option IntKind))
 | 0,_=>J
 | k+1,t=>match P.underlying t with
  | some (.int i)=>A [A i]
  | some .bool=>A [J]
  | some (.struct fs)=>if P.stoodInHeld t=true then J else Kj P (flat P k) fs.toList 0
  | some (.array n e)=>match flat P k e with
   | some l=>if tn P e=A (p l) then A (rep n l) else J
   | none=>J
  | _=>J
def VB:Option IntKind->u->Bool
 | some i,.int j _=>i == j
 | none,H _=>true
 | _,_=>false
def Xa:List (Option IntKind)->List u->Bool
 | [],[]=>true
 | k :: ks,v :: vs=>VB k v&&Xa ks vs
 | _,_=>false
def ceq:u->u->Bool
 | .int _ a,.int _ b=>a == b
 | H a,H b=>a == b
 | _,_=>false
def leq:List u->List u->Bool
 | [],[]=>true
 | a :: l,b :: k=>ceq a b&&leq l k
 | _,_=>false
theorem YE:∀{vs:List u},Xa ks vs=true->(p vs)=(p ks):=by
 induction ks with
 | nil=>intro vs h;cases vs with
  | nil=>rfl
  | cons a l=>simp[Xa]at h
 | cons k ks ih=>intro vs h;cases vs with
  | nil=>simp[Xa]at h
  | cons a l=>simp only[Xa,X]at h;simp[ih h.2]
theorem Sd{js:List (Option IntKind)}:∀{vs:List u},Xa (ks++js) vs=true->Xa ks (vs.take (p ks))=true/\Xa js (vs.drop (p ks))=true:=by
 induction ks with
 | nil=>intro vs h;exact⟨by simp[Xa],by simpa using h⟩
 | cons k ks ih=>
  intro vs h
  cases vs with
  | nil=>simp[Xa]at h
  | cons a l=>
   simp only[List.cons_append,Xa,X]at h;obtain⟨h1,h2⟩:=ih h.2;exact⟨by simp[Xa,h.1,h1],by simpa using h2⟩
theorem GB(n:Nat):∀{a b:List u},(p a)=(p b)->leq a b=(leq (a.take n) (b.take n)&&leq (a.drop n) (b.drop n)):=by
 induction n with
 | zero=>intro a b h;simp[leq]
 | succ n ih=>
  intro a b h
  cases a with
  | nil=>cases b with
   | nil=>simp[leq]
   | cons y b=>simp at h
  | cons x a=>
   cases b with
   | nil=>simp at h
   | cons y b=>simp only[List.take_succ_cons,List.drop_succ_cons,leq];rw[ih (by simpa using h),Bool.and_assoc]
section
variable {P:L} {h:Hp}
def valOf(P:L)(t:E)(cs:List u):u:=
 match ta P t with
 | some true=>B cs.toArray
 | _=>cs.headD undef
theorem M3{cs:List u}{o:Nat}{k:Nat}(hk:flat P k t=A ks)(hn:tn P t=A (p ks))(hc:Xa ks ((cs.drop o).take (p ks))=true){Q:u->Hp->Prop}:
  hw P (part t cs.toArray o) Q h=Q (valOf P t ((cs.drop o).take (p ks))) h:=by
 unfold part valOf;rw[Zk]
 cases k with
 | zero=>simp[flat]at hk
 | succ k=>
  have e:(cs.toArray.extract o (o+(p ks)))=((cs.drop o).take (p ks)).toArray:=by
   apply Array.toList_inj.1;simp[List.extract_eq_take_drop]
  unfold flat at hk;have one:∀{kd:Option IntKind},ks=[kd]->ta P t=A false->hw P (isAgg t) (fun a h'=>hw P (if a=true then do pure (B (cs.toArray.extract o (o+(<-sizeOf t)))) else match cs.toArray[o]? with|some v=>pure v|none=>stuck "part: no such cell") Q h') h=Q (match ta P t with|some true=>B ((cs.drop o).take (p ks)).toArray|_=>((cs.drop o).take (p ks)).headD undef) h:=by
   intro kd hks fy;subst hks;rw[Tc fy,if_neg uK,fy];have hl:=YE hc;simp only[Y,aa,R,S]at hl;have ZS:o<(p cs):=nT;have e2:cs.toArray[o]? = A cs[o]:=by simp[ZS]
   have e3:((cs.drop o).take 1).headD undef=cs[o]:=by
    rw[List.headD_eq_head?_getD,List.head?_take];simp[ZS]
   simp only[e2];show Q _ h=Q _ h;simp only[Y,aa,Nat.zero_add,e3]
  have agg:ta P t=A true->hw P (isAgg t) (fun a h'=>hw P (if a=true then do pure (B (cs.toArray.extract o (o+(<-sizeOf t)))) else match cs.toArray[o]? with|some v=>pure v|none=>stuck "part: no such cell") Q h') h=Q (match ta P t with|some true=>B ((cs.drop o).take (p ks)).toArray|_=>((cs.drop o).take (p ks)).headD undef) h:=by
   intro fy;rw[Tc fy,if_pos rfl,Zk,run_sizeOf hn,e,fy];rfl
  split at hk
  .rename_i hu;exact one (by simpa using hk.symm) (by simp[ta,hu])
  .rename_i hu;exact one (by simpa using hk.symm) (by simp[ta,hu])
  .rename_i hu;exact agg (by simp[ta,hu])
  .rename_i hu;exact agg (by simp[ta,hu])
  .cases hk
theorem gT{k:Nat}{d:Nat}{a b:List u}(ih:∀(t:E) (ks:List (Option IntKind)) (a b:List u),flat P k t=A ks->Xa ks a=true->Xa ks b=true->∀{Q:Bool->Hp->Prop},hw P (Op.equalIn d t (valOf P t a) (valOf P t b)) Q h=Q (leq a b) h)(CT:(p a)=(p b)):∀(fs:List Field) (o:Nat) (ks:List (Option IntKind)),Kj P (flat P k) fs o=A ks->Xa ks (a.drop o)=true->Xa ks (b.drop o)=true->∀{Q:Option Bool × Unit->Hp->Prop},
  hw P (forIn fs ((J,()):Option Bool × Unit) fun (f:Field) (_:Option Bool × Unit)=>
   if f.name ≠ "_" then do
    let x <-part f.type a.toArray f.offset
    let y <-part f.type b.toArray f.offset
    let r <-Op.equalIn d f.type x y
    if (!r)=true then pure (ForInStep.done (A false,())) else pure (ForInStep.yield (J,()))
   else pure (ForInStep.yield (J,()))) Q h=Q (if leq (a.drop o) (b.drop o)=true then (J,()) else (A false,())) h:=by
 intro fs
 induction fs with
 | nil=>
  intro o ks hk ha hb Q;simp only[Kj,Option.some.injEq]at hk;subst hk;have e1:=D (YE ha);have e2:=D (YE hb);rw[e1,e2];rfl
 | cons f fs ihf=>
  intro o ks hk ha hb Q;unfold Kj at hk;split at hk
  .rename_i l hl;split at hk
   .rename_i hc;obtain⟨hn,rfl,htn⟩:=hc
    cases hr:Kj P (flat P k) fs (f.offset+(p l)) with
    | none=>rw[hr]at hk;cases hk
    | some ks'=>
     rw[hr]at hk;simp only[ab,Option.some.injEq]at hk;subst hk;obtain⟨a1,a2⟩:=Sd ha;obtain⟨b1,b2⟩:=Sd hb;rw[G]at a2 b2;rw[ae,Zk,if_pos hn,Zk,M3 hl htn a1,Zk,M3 hl htn b1,Zk,ih f.type l _ _ hl a1 b1];have el:=GB (p l) (a:=a.drop f.offset) (b:=b.drop f.offset) (by simp[CT]);rw[G,G]at el;rw[el]
     cases hx:leq ((a.drop f.offset).take (p l)) ((b.drop f.offset).take (p l)) with
     | true=>
      simp only[aq,M,if_false,ZL,aw];exact ihf (f.offset+(p l)) ks' hr a2 b2
     | false=>
      simp only[am,if_true,ZL,ao,M,if_false]
   .cases hk
  .cases hk
theorem pF{k:Nat}{d e:Nat}{l:List (Option IntKind)}{a b:List u}(ih:∀(t:E) (ks:List (Option IntKind)) (a b:List u),flat P k t=A ks->Xa ks a=true->Xa ks b=true->∀{Q:Bool->Hp->Prop},hw P (Op.equalIn d t (valOf P t a) (valOf P t b)) Q h=Q (leq a b) h)(hl:flat P k e=A l)(htn:tn P e=A (p l))(CT:(p a)=(p b)):∀(n s:Nat),Xa (rep n l) (a.drop (s*(p l)))=true->Xa (rep n l) (b.drop (s*(p l)))=true->∀{Q:Option Bool × Unit->Hp->Prop},
  hw P (forIn (List.range' s n) ((J,()):Option Bool × Unit) fun (i:Nat) (_:Option Bool × Unit)=>do
    let x <-part e a.toArray (i*(p l))
    let y <-part e b.toArray (i*(p l))
    let r <-Op.equalIn d e x y
    if (!r)=true then pure (ForInStep.done (A false,())) else pure (ForInStep.yield (J,()))) Q h =
   Q (if leq (a.drop (s*(p l))) (b.drop (s*(p l)))=true then (J,()) else (A false,())) h:=by
 intro n
 induction n with
 | zero=>
  intro s ha hb Q;have e1:=D (YE ha);have e2:=D (YE hb);rw[e1,e2];rfl
 | succ n ihn=>
  intro s ha hb Q;obtain⟨a1,a2⟩:=Sd ha;obtain⟨b1,b2⟩:=Sd hb;have es:s*(p l)+(p l)=(s+1)*(p l):=by rw[O,Z]
  rw[G,es]at a2 b2;rw[List.range'_succ,ae,Zk,Zk,M3 hl htn a1,Zk,M3 hl htn b1,Zk,ih e l _ _ hl a1 b1];have el:=GB (p l) (a:=a.drop (s*(p l))) (b:=b.drop (s*(p l))) (by simp[CT]);rw[G,G,es]at el;rw[el]
  cases hx:leq ((a.drop (s*(p l))).take (p l)) ((b.drop (s*(p l))).take (p l)) with
  | true=>
   simp only[aq,M,if_false,ZL,aw];exact ihn (s+1) a2 b2
  | false=>
   simp only[am,if_true,ZL,ao,M,if_false]
theorem Io:∀(k:Nat) (t:E) (ks:List (Option IntKind)) (a b:List u) (d:Nat),k<=d->flat P k t=A ks->Xa ks a=true->Xa ks b=true->∀{Q:Bool->Hp->Prop},
  hw P (Op.equalIn d t (valOf P t a) (valOf P t b)) Q h=Q (leq a b) h:=by
 intro k
 induction k with
 | zero=>intro t ks a b d _ hk;simp[flat]at hk
 | succ k ih=>
  intro t ks a b d hd hk ha hb Q;obtain⟨d,rfl⟩:∃e,d=e+1:=⟨d-1,nT⟩
  unfold flat at hk;split at hk
  .rename_i i hu;simp only[Option.some.injEq]at hk;subst hk;have fy:ta P t=A false:=by simp[ta,hu]
   obtain⟨n,rfl⟩:∃n,a=[.int i n]:=by
    cases a with
    | nil=>simp[Xa]at ha
    | cons x l=>
     cases l with
     | cons y l=>simp[Xa]at ha
     | nil=>cases x<;>simp[Xa,VB]at ha<;>subst ha<;>exact⟨_,rfl⟩
   obtain⟨m,rfl⟩:∃n,b=[.int i n]:=by
    cases b with
    | nil=>simp[Xa]at hb
    | cons x l=>
     cases l with
     | cons y l=>simp[Xa]at hb
     | nil=>cases x<;>simp[Xa,VB]at hb<;>subst hb<;>exact⟨_,rfl⟩
   simp only[valOf,fy,al,Op.equalIn];rw[Zk,ZH hu];simp[ZL,leq,ceq]
  .rename_i hu;simp only[Option.some.injEq]at hk;subst hk;have fy:ta P t=A false:=by simp[ta,hu]
   obtain⟨n,rfl⟩:∃n,a=[H n]:=by
    cases a with
    | nil=>simp[Xa]at ha
    | cons x l=>
     cases l with
     | cons y l=>simp[Xa]at ha
     | nil=>cases x<;>simp[Xa,VB]at ha<;>exact⟨_,rfl⟩
   obtain⟨m,rfl⟩:∃n,b=[H n]:=by
    cases b with
    | nil=>simp[Xa]at hb
    | cons x l=>
     cases l with
     | cons y l=>simp[Xa]at hb
     | nil=>cases x<;>simp[Xa,VB]at hb<;>exact⟨_,rfl⟩
   simp only[valOf,fy,al,Op.equalIn];rw[Zk,ZH hu];simp[ZL,leq,ceq]
  .rename_i fs hu;split at hk
   .cases hk
   .rename_i EB;have fy:ta P t=A true:=by simp[ta,hu]
    simp only[valOf,fy,Op.equalIn];rw[Zk,ZH hu];simp only;rw[Zk];show hw P (if P.stoodInHeld t=true then _ else _) Q h=_;rw[if_neg EB];have CT:(p a)=(p b):=by rw[YE ha,YE hb]
    rw[Zk,<-Array.forIn_toList,gT (k:=k) (d:=d) (fun t ks a b h1 h2 h3=>ih t ks a b d nT h1 h2 h3) CT fs.toList 0 ks hk (by simpa using ha) (by simpa using hb)];simp only[W]
    cases leq a b<;>rfl
  .rename_i n e hu;split at hk
   .rename_i l hl;split at hk
    .rename_i htn;simp only[Option.some.injEq]at hk;subst hk;have fy:ta P t=A true:=by simp[ta,hu]
     have CT:(p a)=(p b):=by rw[YE ha,YE hb]
     simp only[valOf,fy,Op.equalIn];rw[Zk,ZH hu];simp only;rw[Zk,run_sizeOf htn,Zk,Std.Legacy.Range.forIn_eq_forIn_range'];simp only[Std.Legacy.Range.size,Nat.sub_zero,Nat.add_sub_cancel,Nat.div_one];rw[pF (k:=k) (d:=d) (h:=h) (fun t ks a b h1 h2 h3=>ih t ks a b d nT h1 h2 h3) hl htn CT n 0 (by simpa using ha) (by simpa using hb)];simp only[Nat.zero_mul,W]
     cases leq a b<;>rfl
    .cases hk
   .cases hk
  .cases hk
def teg(P:L)(t:E):Bool:=P.eqGuardType P.depth t
def wC(o:Option (List (Option IntKind)))(a:List u):Bool:=match o with|some ks=>Xa ks a|none=>false
@[go_sem] theorem ZiV{a:List u}:wC (A ks) a=Xa ks a:=rfl
variable {K:u->Hp->Prop}
theorem Dq{op:BinOp}{x y:Operand}{a b:Array u}(hg:teg P t=false){Q:Unit->Hp->Prop}:hw P (eqGuard op t x y (B a) (B b)) Q h=Q () h:=by
 unfold teg at hg;have e:hw P (do
   if !(<-program).eqGuardType (<-program).depth t then return
   if <-Op.eqGuardIn Op.maxDepth t (B a) (B b) then unsupported (.noEntry "binop/eql: two nil values of an interface type with methods, in a part of a struct or an array")) Q h=Q () h:=by
  rw[Zk];show hw P (_ >>= _) _ h=_;rw[Zk];show hw P (if (!P.eqGuardType P.depth t)=true then _ else _) _ h=_;rw[hg];rfl
 unfold eqGuard
 cases op<;>first|rfl|exact e
@[go_sem] theorem ZiW{x y:Operand}{a b:List u}(hg:teg P t=false)(ht:ta P t=A true)(ha:wC (flat P 6 t) a=true)(hb:wC (flat P 6 t) b=true):
  XS P .eql t x y (B a.toArray) (B b.toArray) K h=K (H (leq a b)) h:=by
 cases hk:flat P 6 t with
 | none=>rw[hk]at ha;cases ha
 | some ks=>
  rw[hk]at ha hb;unfold XS;rw[Zk,Dq hg];have:=Io (h:=h) 6 t ks a b 10000 nT hk ha hb (Q:=fun r h=>K (H r) h);simp only[valOf,ht]at this;show hw P (Op.equalIn 10000 t (B a.toArray) (B b.toArray) >>= _) K h=_;rw[Zk];exact this
@[go_sem] theorem ZiX{x y:Operand}{a b:List u}(hg:teg P t=false)(ht:ta P t=A true)(ha:wC (flat P 6 t) a=true)(hb:wC (flat P 6 t) b=true):
  XS P .neq t x y (B a.toArray) (B b.toArray) K h=K (H (!(leq a b))) h:=by
 cases hk:flat P 6 t with
 | none=>rw[hk]at ha;cases ha
 | some ks=>
  rw[hk]at ha hb;unfold XS;rw[Zk,Dq hg];have:=Io (h:=h) 6 t ks a b 10000 nT hk ha hb (Q:=fun r h=>K (H (!r)) h);simp only[valOf,ht]at this;show hw P (Op.equalIn 10000 t (B a.toArray) (B b.toArray) >>= _) K h=_;rw[Zk];exact this
end
@[go_sem] theorem Zj1:Xa [] []=true:=rfl
@[go_sem] theorem Zj2{i j:IntKind}{n:Int}{vs:List u}:Xa (A i :: ks) (.int j n :: vs)=(i == j&&Xa ks vs):=rfl
@[go_sem] theorem ZnN:leq [] []=true:=rfl
@[go_sem] theorem ZnO{i j:IntKind}{a b:Int}{l k:List u}:leq (.int i a :: l) (.int j b :: k)=(decide (a=b)&&leq l k):=rfl
section
variable {P:L} {T:World} {F:Env} {h:Hp}
@[go_sem] theorem ZcA{ops l:List Oper}{N:Env->Hp->Prop}{d:Option Tmp}{op:Op}{ty:E}{b:Bool}:fY P T ops N l F d op ty undef b h=MU P T ops N l (YB F d undef) h:=rfl
end
@[go_sem] theorem Zj3{α:Type}(l:List α)(n i:Nat):nth (l.take n) i=if i<n then nth l i else J:=by
 rw[YW,YW,List.getElem?_take]
@[go_sem] theorem Zj4{α:Type}(l:List α)(n i:Nat):nth (l.drop n) i=nth l (n+i):=by
 rw[YW,YW,List.getElem?_drop]
def Kk(P:L)(g:E->Option (List E)):List Field->Nat->Option (List E)
 | [],_=>A []
 | f :: fs,o=>match g f.type with
  | some l=>if f.offset=o/\P.cellsOf f.type=(p l) then (Kk P g fs (o+(p l))).map (l ++ ·) else J
  | none=>J
def leaf(P:L):Nat->E->Option (List E)
 | 0,_=>J
 | k+1,t=>match P.underlying t with
  | some (.struct fs)=>match Kk P (leaf P k) fs.toList 0 with
   | some l=>if P.cellsOf t=(p l) then A l else J
   | none=>J
  | some (.array n e)=>match leaf P k e with
   | some l=>if P.cellsOf e=(p l)/\P.cellsOf t=n*(p l) then A (rep n l) else J
   | none=>J
  | _=>A [t]
def EI(P:L)(h:Hp):List E->List u->Prop
 | [],[]=>True
 | t :: ts,c :: cs=>(∃k,fit P h k t [c])/\EI P h ts cs
 | _,_=>False
theorem Od{h:Hp}:∀{ts us:List E} {cs ds:List u},EI P h ts cs->EI P h us ds->EI P h (ts++us) (cs++ds)
 | [],us,[],ds,_,h2=>h2
 | t :: ts,us,c :: cs,ds,h1,h2=>⟨h1.1,Od h1.2 h2⟩
 | [],us,c :: cs,ds,h1,_=>h1.elim
 | t :: ts,us,[],ds,h1,_=>h1.elim
theorem GC{α:Type}(l:List α):∀n,(rep n l).length=n*(p l)
 | 0=>by simp[rep]
 | n+1=>by simp[rep,GC l n,O,Nat.add_comm]
theorem wE{h:Hp}:∀(j k:Nat) (t:E) (cs:List u) (l:List E),leaf P j t=A l->(p cs)=(p l)->fit P h k t cs->EI P h l cs:=by
 intro j
 induction j with
 | zero=>intro k t cs l hl;simp[leaf]at hl
 | succ j ih=>
  intro k t cs l hl hlen hf;unfold leaf at hl;split at hl
  .rename_i fs hu;split at hl
   .rename_i l' fw;split at hl
    .rename_i hc;simp only[Option.some.injEq]at hl;subst hl;obtain⟨h1,h2⟩:=gS hu hf;have key:∀(gs:List Field) (o:Nat) (l:List E),Kk P (leaf P j) gs o=A l->(∀f∈gs,∃k,fit P h k f.type ((cs.drop f.offset).take (P.cellsOf f.type)))->(cs.drop o).length=(p l)->EI P h l (cs.drop o):=by
      intro gs
      induction gs with
      | nil=>
       intro o l hl _ hlen;simp only[Kk,Option.some.injEq]at hl;subst hl;rw[D hlen];trivial
      | cons f gs ihg=>
       intro o l hl Jc hlen;unfold Kk at hl;split at hl
       .rename_i lf hlf;split at hl
        .rename_i hcf;obtain⟨rfl,hcf⟩:=hcf
         cases hr:Kk P (leaf P j) gs (f.offset+(p lf)) with
         | none=>rw[hr]at hl;cases hl
         | some lr=>
          rw[hr]at hl;simp only[ab,Option.some.injEq]at hl;subst hl;simp only[List.length_append]at hlen;have e:cs.drop f.offset=(cs.drop f.offset).take (p lf)++cs.drop (f.offset+(p lf)):=by
           rw[<-G,U]
          obtain⟨k',NE⟩:=Jc f uK;rw[hcf]at NE;rw[e];refine Od (ih k' f.type _ lf hlf ?_ NE) (ihg _ lr hr (fun g hg=>Jc g (by simp[hg])) ?_)
          .simp only[R];omega
          .rw[<-G,S];omega
        .cases hl
       .cases hl
     have:=key fs.toList 0 l' fw (fun f hf'=>by
      obtain⟨i,hi,AK⟩:=List.mem_iff_getElem.1 hf';exact h2 i f (by rw[<-Array.getElem?_toList,List.getElem?_eq_getElem hi,AK])) (by simpa using hlen)
     simpa using this
    .cases hl
   .cases hl
  .rename_i n e hu;split at hl
   .rename_i l' fw;split at hl
    .rename_i hc;obtain⟨WE,Es⟩:=hc;simp only[Option.some.injEq]at hl;subst hl;obtain⟨h1,h2⟩:=pE hu hf;have key:∀(m s:Nat),s+m=n->(cs.drop (s*(p l'))).length=m*(p l')->EI P h (rep m l') (cs.drop (s*(p l'))):=by
      intro m
      induction m with
      | zero=>
       intro s _ hlen;have e0:cs.drop (s*(p l'))=[]:=D (by rw[hlen];simp);rw[e0];trivial
      | succ m ihm=>
       intro s hs hlen;have es:s*(p l')+(p l')=(s+1)*(p l'):=by rw[O,Z]
       have ee:cs.drop (s*(p l'))=(cs.drop (s*(p l'))).take (p l')++cs.drop ((s+1)*(p l')):=by
        rw[<-es,<-G,U]
       obtain⟨k',NE⟩:=h2 s nT;rw[WE]at NE;rw[ee];rw[O,Z]at hlen;refine Od (ih k' e _ l' fw ?_ NE) (ihm (s+1) nT ?_)
       .simp only[R];omega
       .rw[<-es,<-G,S];omega
     have:=key n 0 nT (by rw[Nat.zero_mul,W,hlen,GC])
     simpa using this
    .cases hl
   .cases hl
  .simp only[Option.some.injEq]at hl;subst hl
   match cs,hlen with
   | [c],_=>exact⟨⟨k,hf⟩,trivial⟩
def ci(cs:List u)(i:Nat):Int:=match nth cs i with|some (.int _ n)=>n|_=>0
def cb(cs:List u)(i:Nat):Bool:=match nth cs i with|some (H b)=>b|_=>false
def ZwZ(P:L)(ts:List E)(a n:Nat):Bool:=(List.range n).all fun j=>match nth ts (a+j) with|some t=>(match P.underlying t with|some .bool=>true|_=>false)|none=>false
theorem take_one{l:List u}{i:Nat}{x:u}(h:nth l i=A x):(l.drop i).take 1=[x]:=by
 rw[YW]at h;obtain⟨hi,rfl⟩:=List.getElem?_eq_some_iff.1 h;rw[List.take_one,List.head?_drop,h];rfl
theorem ag{l:List u}{i:Nat}{x y:u}(h:nth l i=A x)(h2:nth l (i+1)=A y):(l.drop i).take 2=[x,y]:=by
 have e1:=take_one h;have e2:=take_one h2;have:(l.drop i).take (1+1)=(l.drop i).take 1++((l.drop i).drop 1).take 1:=by rw[List.take_add]
 rw[this,G,e1,e2];rfl
theorem Zj.add{h h':Hp}(b:Zj h.size h h')(o:Obj):Zj h.size h (h'.push o):=b.trans (Zj.push b.size o)
theorem XB{α:Type}{l:List α}{n:Nat}(h:(p l)=n):l.take n=l:=by rw[<-h,List.take_length]
theorem Oe{h:Hp}{ts:List E}{cs:List u}(ht:P.underlying t=A (.int .i64))(hf:EI P h (t :: ts) cs):
  ∃n l,cs=.int .i64 n :: l /\ -9223372036854775808<=n/\n<=9223372036854775807/\EI P h ts l:=by
 cases cs with
 | nil=>exact hf.elim
 | cons c l=>
  obtain⟨⟨k,hk⟩,hl⟩:=hf;obtain⟨m,hm,hw⟩:=CS ht hk;simp only[List.cons.injEq,and_true]at hm;subst hm;exact⟨m,l,rfl,(wf_i64 hw).1,(wf_i64 hw).2,hl⟩
theorem wF{h:Hp}{cs:List u}(hf:EI P h [] cs):cs=[]:=by
 cases cs with
 | nil=>rfl
 | cons c l=>exact hf.elim
end Go.V
